/- What the proof of CacheSound stands on, part 4 of 5. -/
import Derived.BigQuiet
import Derived.BigRegion
import Derived.CallsIn
import Derived.ChangeAlike
import Derived.ChangeArms
import Derived.ChangeKeysEq
import Derived.ChangeSlices
import Derived.Deep.AppendLies
import Derived.Deep.CutRange
import Derived.Deep.DeepCutAuto
import Derived.Deep.Heap
import Derived.Deep.LoopGhost
import Derived.Deep.MidRow
import Derived.Deep.QuietTactic
import Derived.Deep.Slices
import Derived.Great.BuildSlice
import Derived.Great.Walk
import Derived.Ground.Names2Prog
import Derived.Ground.SlgnProg
import Derived.Ground.SlsfProg
import Derived.Handy
import Derived.KernelRfl
import Derived.Laws.AppendOwn
import Derived.Laws.AppendOwnNone
import Derived.Laws.CopyRow
import Derived.Laws.Externs
import Derived.Laws.MakeOwn
import Derived.Laws.Rows
import Derived.Laws.StructEq
import Derived.Lib.AppendZerosOnto
import Derived.Lib.Overlaps
import Derived.Lib.QuietBelow
import Derived.Lib.SliceRun
import Derived.OpenShut
import Derived.Orders
import Derived.OrdersIn
import Derived.RangeFuncFrom
import Derived.RangeFuncLeaves
import Derived.RangeFuncWrites
import Derived.RegionTactic
import Derived.Shelf.SlSortCmp.HeapSortK
import Derived.Shelf.SlSortCmp.InsertionK
import Derived.Shelf.SlSortCmp.MedianK
import Derived.Shelf.SlSortCmp.NoneTotal
import Derived.Shelf.SlSortCmp.PartialInsertionK
import Derived.Shelf.SlSortCmp.PartitionEqualK
import Derived.Shelf.SlSortCmp.PartitionK
import Derived.Shelf.SlSortCmp.PdqK
import Derived.Shelf.SlSortCmp.PivotK
import Derived.Shelf.SlSortCmp.ReverseRangeK
import Derived.Shelf.SlSortCmp.SiftDownK
import Derived.Shelf.Slices.Cells
import Derived.Shelf.Slices.Clone
import Derived.Shelf.Slices.Delete
import Derived.Shelf.Slices.Empties
import Derived.Shelf.Slices.SearchI
import Derived.Shelf.Slices.Turned
import Derived.Shelf.SlicesE.Clone
import Derived.Shelf.SlicesE.Delete
import Derived.Shelf.SlicesQ.Reverse
import Derived.Shelf.Small.Bits
import Derived.Shelf.Small.Wraps
import Derived.Shelf.Strconv.Itoa0
import Derived.Sort.AssemblyPlain
import Derived.Still
import Derived.StillTail
import Derived.TacticsIn
import Derived.Test.YtmjnakhpekbenaaGreatProg
import Derived.WalkKit
import Derived.WalkLawsBesides
import Derived.Test.YtmjnakhpekbenaaGreatCacheSoundC
set_option linter.unusedVariables false
set_option linter.unusedSimpArgs false
namespace Go.Proofs.YtmjnakhpekbenaaGreat
set_option maxRecDepth 20000
set_option maxHeartbeats 4000000
open Go.RowKit Fw
namespace Ca
def runOk (s y l m:Int) (X:List (List Int)) (zs:List Int):Bool:=okSt s y l m X && (decide ((zs.length:Int)≤1000) && allW zs)
theorem runOk_iff {s y l m:Int} {X:List (List Int)} {zs:List Int}:runOk s y l m X zs=true↔okSt s y l m X=true∧(zs.length:Int)≤1000∧allW zs=true:=by simp [runOk]
def RunR (s y l m:Int) (S:List SlI) (zs:List Int) (w:World) (e:Ending) (w':World):Prop :=
  (runOk s y l m (stX S) zs=false∧e=.returned (.tuple #[.slice none 0 0,vI 0,vI 1])∧Below w.heap.size w w') ∨
  (runOk s y l m (stX S) zs=true∧∃ g S',e=.returned (.tuple #[.slice (some ⟨g,0,none⟩) S.length S.length,vI (((runX s y l zs (stX S,0)).2:Nat):Int),vI 0])∧stX S'=(runX s y l zs (stX S,0)).1∧HP Tr w w' [.cel g (sA S') 32]∧Rows w' S')
theorem ValidState_at {s y l m:Int} {S:List SlI} {r:Bool} (h:okSt s y l m (stX S)=r) (p:Option Addr) (cp:Nat) (w:World) (hS:InS2 w p S) (hn:S.length≤281474976710656) :
    Calls Tryz.prog 53 #[.agg #[vI s,vI y,vI l,vI m],.slice p S.length cp] w fun e w'=>e=.returned (.bool r)∧Below w.heap.size w w':=h ▸ ValidState_any s y l m p S cp w hS hn
theorem containsW_at {xs:List Int} {r:Bool} (h:allW xs=r) (q:Option Addr) (c:Nat) (w:World) (hI:InI w q xs) (hn:xs.length≤281474976710656) :
    Calls Tryz.prog 54 #[.slice q xs.length c,.func (.func 51) #[] #[]] w fun e w'=>e=.returned (.bool (!r))∧Below w.heap.size w w':=h ▸ containsW_any q xs c w hI hn
theorem okSt_rows {s y l m:Int} {S:List SlI} (h:okSt s y l m (stX S)=true):(S.length:Int)=s∧∀ r∈S,r.xs.length≤4:=by
  obtain⟨h1,h2,h3⟩:=okSt_iff.1 h;obtain⟨hs,hy,-,-⟩:=vG_iff.1 h1;rw [stX_len] at h2 h3;refine⟨h2,fun r hr=>?_⟩;obtain⟨i,hi,rfl⟩:=List.mem_iff_getElem.1 hr;have:=(okR_iff.1 (h3 i hi)).1;rw [(stX_at (List.getElem?_eq_getElem hi)).1] at this;omega
theorem okSt_wi {s y l m:Int} {X:List (List Int)} (h:okSt s y l m X=true) {k:Nat} (hk:k<X.length):∀ x∈X.getD k [],Wi x:=fun x hx=>by
  have:=((okR_iff2.1 ((okSt_iff.1 h).2.2 k hk)).2.1 x hx).1;exact⟨by omega,by omega⟩
theorem Run_any (s y l m:Int) (p:Option Addr) (S:List SlI) (cp:Nat) (q2:Option Addr) (zs:List Int) (c2:Nat) (w:World) (hS:InS2 w p S) (hn:S.length≤281474976710656) (hI:InI w q2 zs) (hzn:zs.length≤281474976710656) :
  Calls Tryz.prog 31 #[.agg #[vI s,vI y,vI l,vI m],.slice p S.length cp,.slice q2 zs.length c2] w (RunR s y l m S zs w):=by
 refine calls_of Tryz.func31 rfl (m:=45) rfl [(0,.agg #[vI s,vI y,vI l,vI m]),(1,.slice p S.length cp),(2,.slice q2 zs.length c2)] (Fr_enter [.agg #[vI s,vI y,vI l,vI m],.slice p S.length cp,.slice q2 zs.length c2] 45 (Nat.le_of_ble_eq_true rfl)) ?_;have hH1:HP Tr w w []:=HP.refl w;refine WC.seq fun K2 hK2=>WC.region ?_;refine WL.alloc (c:=#[vI s,vI y,vI l,vI m]) (T:=23) hH1 3 rfl (by decide) rfl rfl (fun b3=>vP b3 0) (by kernel_rfl) (fun b3 w3 hw3=>?_);have hH4:HP Tr w w3 [.cel b3 #[vI s,vI y,vI l,vI m] 23]:=hw3.2;have nb3:=hw3.1;clear hw3;refine WL.z (.slice none 0 0) 6 (WL.z (vI 0) 7 (WL.z (vI 0) 8 (WL.k hK2 (WC.seq fun K5 hK5=>WC.region (WL.z (.func (.func 51) #[] #[]) 9 (WL.k hK5 ?_))))));refine WC.seq fun K6 hK6=>WC.seq fun K7 hK7=>WC.region (WL.y (.agg #[vI s,vI y,vI l,vI m]) 14 (x_loadS (cs:=[vI s,vI y,vI l,vI m]) rfl rfl Tryz.underlying23 rfl sz23 (HP.range hH4 0 rfl rfl)) (WL.z (.slice p S.length cp) 15 ?_));rcases Bool.eq_false_or_eq_true (okSt s y l m (stX S)) with hv | hv
 ·
  refine WL.c 53 #[.agg #[vI s,vI y,vI l,vI m],.slice p S.length cp] 16 ?_;refine(ValidState_at hv p cp _ (hS.below (HP.below hH4)) hn).mono ?_;rintro e w8 ⟨rfl,hb9⟩;refine⟨_,rfl,?_⟩;have hH10:=HP.call hH4 hb9;refine WL.z (.bool false) 17 (WL.z (.bool false) 18 (WL.z (.slice q2 zs.length c2) 19 (WL.z (vI (zs.length:Int)) 20 ?_)));by_cases hlen:(1000:Int)<(zs.length:Int)
  ·
   refine WL.y (.bool true) 21 (x_gtr rfl rfl rfl (dT (hlen))) (WL.z (.bool true) 22 (WL.z (.bool true) 23 (WL.p 24 (WL.p 25 (WL.p 26 (WL.z (.bool true) 27 (WL.k hK7 (WC.sb [(0,.agg #[vI s,vI y,vI l,vI m]),(1,.slice p S.length cp),(2,.slice q2 zs.length c2),(3,vP b3 0),(6,.slice none 0 0),(7,vI 0),(8,vI 0),(9,.func (.func 51) #[] #[]),(27,.bool true)] ?_))))))));refine WC.yes rfl ?_;refine WC.seq fun K11 hK11=>?_;have hno:runOk s y l m (stX S) zs=false:=(by unfold runOk;rw [hv,decide_eq_false (by omega)];rfl);refine WC.region (WL.z (.slice none 0 0) 6 (WL.z (vI 0) 7 (WL.z (vI 1) 8 (WL.k hK11 (WC.ret ?_)))));refine WQ.thenRet ?_;refine WQ.ret3 6 7 8 rfl rfl rfl rfl ?_;exact .inl ⟨hno,rfl,HP.below hH10⟩
  ·
   refine WL.y (.bool false) 21 (x_gtr rfl rfl rfl (dF (hlen))) (WL.z (.bool false) 22 (WL.z (.bool false) 23 (WL.z (.slice q2 zs.length c2) 24 (WL.z (.func (.func 51) #[] #[]) 25 ?_))));rcases Bool.eq_false_or_eq_true (allW zs) with ha | ha
   ·
    refine WL.c 54 #[.slice q2 zs.length c2,.func (.func 51) #[] #[]] 26 ?_;refine(containsW_at ha q2 c2 _ (hI.below (HP.below hH10)) hzn).mono ?_;rintro e w12 ⟨rfl,hb13⟩;refine⟨_,rfl,?_⟩;have hH14:=HP.call hH10 hb13;refine WL.z (.bool false) 27 (WL.k hK7 (WC.sb [(0,.agg #[vI s,vI y,vI l,vI m]),(1,.slice p S.length cp),(2,.slice q2 zs.length c2),(3,vP b3 0),(6,.slice none 0 0),(7,vI 0),(8,vI 0),(9,.func (.func 51) #[] #[]),(27,.bool false)] ?_));refine WC.no rfl ?_;refine WC.skip (WQ.then (hK6 _ _ _ (WC.seq fun K15 hK15=>WC.region (WL.z (.slice p S.length cp) 28 ?_))));have hyes:runOk s y l m (stX S) zs=true:=runOk_iff.2 ⟨hv,by omega,ha⟩;obtain⟨hSs,hrl⟩:=okSt_rows hv;obtain⟨⟨hs1,hs2⟩,⟨hy1,hy2⟩,⟨hl1,hl2⟩,-⟩:=vG_iff.1 (okSt_iff.1 hv).1;refine WL.c 55 #[.slice p S.length cp] 29 ?_;refine(copied_any p S cp _ (hS.below (HP.below hH14)) (by omega) (fun r hr=>by have:=hrl r hr;omega)).mono ?_;rintro e w16 ⟨g,S1,rfl,hX1,hb17,hR1⟩;refine⟨_,rfl,?_⟩;have hH18:HP Tr w _ [.cel b3 #[vI s,vI y,vI l,vI m] 23,.cel g (sA S1) 32]:=HP.trans hH14 hb17;refine WL.z (vS g S.length S.length) 10 (WL.z (vI 0) 11 (WL.k hK15 (WC.seq fun K19 hK19=>WC.seq fun K20 hK20=>WC.region (WL.z (.slice q2 zs.length c2) 30 (WL.z (vI (zs.length:Int)) 31 (WL.z (vI 0) 32 (WL.nil ?_)))))));refine WQ.then (hK20 _ _ _ (WC.block ?_));refine WC.loop (fun kk0 ll0 ww0=>∃ (i:Nat) (S2:List SlI) (h:Nat),ll0=[(2,.slice q2 zs.length c2),(3,vP b3 0),(10,vS g S.length S.length),(11,vI (h:Int)),(30,.slice q2 zs.length c2),(31,vI (zs.length:Int)),(32,vI (i:Int))]∧kk0=zs.length-i∧(i≤zs.length)∧(runX s y l (zs.drop i) (stX S2,h)=runX s y l zs (stX S,0))∧(Rows ww0 S2)∧(okSt s y l m (stX S2)=true)∧(h≤i)∧(S2.length=S.length)∧HP Tr w ww0 [.cel b3 #[vI s,vI y,vI l,vI m] 23,.cel g (sA S2) 32]) (zs.length) [(2,.slice q2 zs.length c2),(3,vP b3 0),(10,vS g S.length S.length),(11,vI 0),(30,.slice q2 zs.length c2),(31,vI (zs.length:Int)),(32,vI 0)] ⟨rfl,rfl,rfl,rfl,rfl,rfl,rfl,trivial⟩ ⟨0,S1,0,rfl,rfl,Nat.zero_le _,by rw [List.drop_zero,hX1],hR1,by rw [hX1];exact hv,Nat.le_refl _,by rw [← stX_len S1,hX1,stX_len],hH18⟩ ?_
    rintro kk l w22 ⟨i,S2,h,rfl,hkk,hi,hrun,hrows,hok,hh,hlS,hH23⟩ K21 hK21;refine WC.seq fun K24 hK24=>WC.region ?_;by_cases hlt:(i:Int)<(zs.length:Int)
    ·
     refine WL.y (.bool true) 33 (x_lss rfl rfl rfl (dT (hlt))) (WL.k hK24 (WC.seq fun K25 hK25=>?_));refine WC.yes rfl ?_;refine WC.skip (WQ.then (hK25 _ _ _ (WC.seq fun K26 hK26=>WC.block (WC.seq fun K27 hK27=>?_))));obtain⟨gz,oz,hqz,hrowz⟩:=hI (by omega);subst hqz;refine WC.region (WL.y (vP gz (oz+i)) 34 (x_ix (i) (oz+i) Tryz.underlying32 sz3) (WL.y (vI (zs.getD i 0)) 35 (x_load rfl rfl Tryz.underlying3 rfl ((HP.oldRange hH23 trivial (hrowz i (by omega))) 0 _ rfl)) (WL.z (vI (zs.getD i 0)) 13 (WL.k hK27 (WC.seq fun K28 hK28=>WC.region (WL.y (.agg #[vI s,vI y,vI l,vI m]) 36 (x_loadS (cs:=[vI s,vI y,vI l,vI m]) rfl rfl Tryz.underlying23 rfl sz23 (HP.range hH23 0 rfl rfl)) (WL.z (vS g S.length S.length) 37 (WL.z (vI (zs.getD i 0)) 38 ?_))))))));have haz:0≤zs.getD i 0∧zs.getD i 0≤999:=allW_iff.1 ha _ (by simp [List.getD_eq_getElem?_getD,show i<zs.length by omega]);obtain⟨hk1,hk2⟩:=setN_spec ⟨hs1,hs2⟩ ⟨hl1,hl2⟩ haz;obtain⟨⟨q9,xs9,c9⟩,hkS⟩:∃ r,S2[setN s l (zs.getD i 0)]?=some r:=⟨S2[setN s l (zs.getD i 0)]'(by omega),List.getElem?_eq_getElem _⟩;obtain⟨hr1,hr2,hr3,hr4⟩:=stX_at hkS;have hrl2:=(okSt_rows hok).2 _ hr4;simp only [] at hr1 hrl2;have hRk:=hrows _ hr4;have hO:(_:World).heap[g]?=some (.cells (sA S2) 32 (0,0)):=HP.get hH23 1 rfl;refine WL.c 56 #[.agg #[vI s,vI y,vI l,vI m],vS g S.length S.length,vI (zs.getD i 0)] 39 ?_;refine(touch_any g S.length S.length S2 s y l m (zs.getD i 0) (setN s l (zs.getD i 0)) q9 xs9 c9 _ (HP.ownB (A:=[Go.Proofs.YtmjnakhpekbenaaGreat.Fw.Ent.cel b3 #[vI s,vI y,vI l,vI m] 23]) hH23) ⟨hs1,hs2⟩ ⟨hl1,hl2⟩ haz ⟨hy1,hy2⟩ hk1 hkS hRk.1 hRk.2 (by omega) hlS).mono ?_;rintro e w9 ⟨pv,cp9,rfl,hb9⟩;refine⟨_,rfl,?_⟩;have hok2:=okSt_stp hok haz;have hstp:stX (S2.set (setN s l (zs.getD i 0)) ⟨pv,tcX y (zs.getD i 0/l) xs9,cp9⟩)=stp s y l (zs.getD i 0) (stX S2):=by unfold stp;rw [stX_set,hr1]
     have hwi9:∀ x∈tcX y (zs.getD i 0/l) xs9,Wi x:=(by have q8:=okSt_wi hok2 (k:=setN s l (zs.getD i 0)) (by rw [stp_length,stX_len];exact hr3);rw [← hstp,stX_set,getD_set_eq (by rw [stX_len];exact hr3)] at q8;exact q8);have hrows2:=(hrows.keep hO hb9).set (k:=setN s l (zs.getD i 0)) (row_InR (HP.get hb9 1 rfl) hwi9);have hH29:HP Tr w _ [.cel b3 #[vI s,vI y,vI l,vI m] 23,.cel g (sA (S2.set (setN s l (zs.getD i 0)) ⟨pv,tcX y (zs.getD i 0/l) xs9,cp9⟩)) 32,rowI' pv cp9 (tcX y (zs.getD i 0/l) xs9)]:=HP.exch (A:=[Go.Proofs.YtmjnakhpekbenaaGreat.Fw.Ent.cel b3 #[vI s,vI y,vI l,vI m] 23]) hH23 hb9;refine WL.k hK28 ?_;rcases Bool.eq_false_or_eq_true ((decide (0≤Lib.idxOf xs9 (zs.getD i 0/l)))) with hd | hd
     ·
      refine WC.yes (congrArg (fun b=>some (Value.bool b)) hd) ?_;refine WC.region (WL.z (vI (h:Int)) 40 (WL.y (vI ((h+1:Nat):Int)) 41 (x_ad (((h+1:Nat):Int))) (WL.z (vI ((h+1:Nat):Int)) 11 (WL.nil (WQ.inNormal (WQ.then (hK26 _ _ _ (WC.sb [(2,.slice (some ⟨gz,oz,none⟩) zs.length c2),(3,vP b3 0),(10,vS g S.length S.length),(11,vI ((h+1:Nat):Int)),(13,vI (zs.getD i 0)),(30,.slice (some ⟨gz,oz,none⟩) zs.length c2),(31,vI (zs.length:Int)),(32,vI (i:Int)),(33,.bool true),(39,.bool (decide (0≤Lib.idxOf xs9 (zs.getD i 0/l))))] (WC.region (WL.y (vI ((i+1:Nat):Int)) 42 (x_ad (((i+1:Nat):Int))) (WL.z (vI ((i+1:Nat):Int)) 32 ?_)))))))))));refine WL.nil ?_;have hhit:hitN s l (zs.getD i 0) (stX S2)=1:=(by unfold hitN;rw [hr1,if_pos (of_decide_eq_true hd)]);refine WQ.sb [(2,.slice (some ⟨gz,oz,none⟩) zs.length c2),(3,vP b3 0),(10,vS g S.length S.length),(11,vI ((h+1:Nat):Int)),(30,.slice (some ⟨gz,oz,none⟩) zs.length c2),(31,vI (zs.length:Int)),(32,vI ((i+1:Nat):Int))] ?_;refine WQ.then (hK21 _ _ _ (by omega) ⟨i+1,S2.set (setN s l (zs.getD i 0)) ⟨pv,tcX y (zs.getD i 0/l) xs9,cp9⟩,h+1,rfl,rfl,by omega,by rw [← hrun,run_drop (show i<zs.length by omega),hstp,hhit],hrows2,by rw [hstp];exact hok2,by omega,by simpa using hlS,(HP.drop hH29 2)⟩)
     ·
      refine WC.no (congrArg (fun b=>some (Value.bool b)) hd) ?_;refine WC.skip (WQ.inNormal (WQ.then (hK26 _ _ _ (WC.region (WL.y (vI ((i+1:Nat):Int)) 42 (x_ad (((i+1:Nat):Int))) (WL.z (vI ((i+1:Nat):Int)) 32 (WL.nil ?_)))))));have hhit:hitN s l (zs.getD i 0) (stX S2)=0:=(by unfold hitN;rw [hr1,if_neg (of_decide_eq_false hd)]);refine WQ.sb [(2,.slice (some ⟨gz,oz,none⟩) zs.length c2),(3,vP b3 0),(10,vS g S.length S.length),(11,vI (h:Int)),(30,.slice (some ⟨gz,oz,none⟩) zs.length c2),(31,vI (zs.length:Int)),(32,vI ((i+1:Nat):Int))] ?_;refine WQ.then (hK21 _ _ _ (by omega) ⟨i+1,S2.set (setN s l (zs.getD i 0)) ⟨pv,tcX y (zs.getD i 0/l) xs9,cp9⟩,h,rfl,rfl,by omega,by rw [← hrun,run_drop (show i<zs.length by omega),hstp,hhit];rfl,hrows2,by rw [hstp];exact hok2,by omega,by simpa using hlS,(HP.drop hH29 2)⟩)
    ·
     refine WL.y (.bool false) 33 (x_lss rfl rfl rfl (dF (hlt))) (WL.k hK24 (WC.seq fun K30 hK30=>?_));refine WC.no rfl ?_;refine WC.exit (WQ.thenExit (WQ.thenExit (WQ.inExit (WQ.then (hK19 _ _ _ (WC.seq fun K31 hK31=>?_))))));rw [List.drop_eq_nil_of_le (show zs.length≤i by omega)] at hrun;have hr8:(stX S2,h)=runX s y l zs (stX S,0):=hrun;refine WC.region (WL.z (vS g S.length S.length) 43 (WL.z (vI (h:Int)) 44 (WL.z (vS g S.length S.length) 6 (WL.z (vI (h:Int)) 7 (WL.z (vI 0) 8 (WL.k hK31 (WC.ret ?_)))))));refine WQ.ret3 6 7 8 rfl rfl rfl rfl ?_;exact .inr ⟨hyes,g,S2,by rw [← hr8],by rw [← hr8],HP.drop hH23 0,hrows⟩
   ·
    refine WL.c 54 #[.slice q2 zs.length c2,.func (.func 51) #[] #[]] 26 ?_;refine(containsW_at ha q2 c2 _ (hI.below (HP.below hH10)) hzn).mono ?_;rintro e w32 ⟨rfl,hb33⟩;refine⟨_,rfl,?_⟩;have hH34:=HP.call hH10 hb33;refine WL.z (.bool true) 27 (WL.k hK7 (WC.sb [(0,.agg #[vI s,vI y,vI l,vI m]),(1,.slice p S.length cp),(2,.slice q2 zs.length c2),(3,vP b3 0),(6,.slice none 0 0),(7,vI 0),(8,vI 0),(9,.func (.func 51) #[] #[]),(27,.bool true)] ?_));refine WC.yes rfl ?_;refine WC.seq fun K35 hK35=>?_;have hno:runOk s y l m (stX S) zs=false:=(by unfold runOk;rw [hv,ha,Bool.and_false,Bool.and_false]);refine WC.region (WL.z (.slice none 0 0) 6 (WL.z (vI 0) 7 (WL.z (vI 1) 8 (WL.k hK35 (WC.ret ?_)))));refine WQ.thenRet ?_;refine WQ.ret3 6 7 8 rfl rfl rfl rfl ?_;exact .inl ⟨hno,rfl,HP.below hH34⟩
 ·
  refine WL.c 53 #[.agg #[vI s,vI y,vI l,vI m],.slice p S.length cp] 16 ?_;refine(ValidState_at hv p cp _ (hS.below (HP.below hH4)) hn).mono ?_;rintro e w36 ⟨rfl,hb37⟩;refine⟨_,rfl,?_⟩;have hH38:=HP.call hH4 hb37;refine WL.z (.bool true) 17 (WL.z (.bool true) 18 (WL.p 19 (WL.p 20 (WL.p 21 (WL.z (.bool true) 22 (WL.z (.bool true) 23 (WL.p 24 (WL.p 25 (WL.p 26 (WL.z (.bool true) 27 (WL.nil ?_)))))))))));refine WQ.then (hK7 _ _ _ (WC.sb [(0,.agg #[vI s,vI y,vI l,vI m]),(1,.slice p S.length cp),(2,.slice q2 zs.length c2),(3,vP b3 0),(6,.slice none 0 0),(7,vI 0),(8,vI 0),(9,.func (.func 51) #[] #[]),(27,.bool true)] ?_));refine WC.yes rfl ?_;refine WC.seq fun K39 hK39=>?_;have hno:runOk s y l m (stX S) zs=false:=(by unfold runOk;rw [hv];rfl);refine WC.region (WL.z (.slice none 0 0) 6 (WL.z (vI 0) 7 (WL.z (vI 1) 8 (WL.k hK39 (WC.ret ?_)))));refine WQ.thenRet ?_;refine WQ.ret3 6 7 8 rfl rfl rfl rfl ?_;exact .inl ⟨hno,rfl,HP.below hH38⟩
end Ca
end Go.Proofs.YtmjnakhpekbenaaGreat
namespace Go.Proofs.YtmjnakhpekbenaaGreat
set_option maxRecDepth 20000
set_option maxHeartbeats 4000000
open Go.RowKit Fw
namespace Ca
abbrev rowS (pv:Option Addr) (cp:Nat) (S:List SlI):Ent:=.own (.slice pv S.length cp) S.length (S.map slV) 32 1
def rowE (r:SlI):Ent:=rowI' r.q r.c r.xs
theorem in_own {w:World} {pv:Option Addr} {cp:Nat} {S:List SlI} (h:Ent.holds w (rowS pv cp S)) (hr:∀ r∈S,InR w r):InS2 w pv S:=⟨fun h0=>by
    have h2:w.ownsRow 0 32 1 (.slice pv S.length cp) S.length (S.map slV):=h;have hc:=@World.ownsRow.cells _ _ _ _ _ _ _ h2;rcases h2.2 with ⟨h0',h1⟩ | ⟨g,cap,cur,hv,hb,hg,hnc,hm,hs,hx⟩
    · omega
    · cases hv
      refine⟨g,0,rfl,fun i hi j v hv=>?_⟩;have hc:=hc (g:=g) rfl i (slV (S.getD i ⟨none,[],0⟩)) (by simp [List.getD_eq_getElem?_getD,hi])
      match j,hv with
      | 0,hv=>simp at hv;subst hv;simp only [hadd,Nat.zero_add,Nat.add_zero] at hc ⊢;exact hc
      | j+1,hv=>simp at hv,hr⟩
theorem in_cel {w:World} {g:Nat} {S:List SlI} (h:Ent.holds w (.cel g (sA S) 32)) (hr:Rows w S):InS2 w (some ⟨g,0,none⟩) S:=⟨fun h0=>⟨g,0,rfl,fun i hi j v hv=>by
      match j,hv with
      | 0,hv =>
        simp at hv;subst hv;have h2:w.heap[g]?=some (.cells (sA S) 32 (0,0)):=h;rw [cell_of_row w g _ _ 32 (0,0) h2];rw [Nat.zero_add,Nat.add_zero,sA_at (r:=S.getD i ⟨none,[],0⟩) (by simp [List.getD_eq_getElem?_getD,hi])]
        rfl
      | j+1,hv=>simp at hv⟩,fun r h=>(hr r h).1⟩
def tOk (s y l m a:Int) (X:List (List Int)):Bool:=okSt s y l m X && wn a 0 999
def TouR (s y l m a:Int) (S:List SlI) (w:World) (e:Ending) (w':World):Prop :=
  (tOk s y l m a (stX S)=false∧e=.returned (.tuple #[.slice none 0 0,.bool false,vI 1])∧Below w.heap.size w w') ∨
  (tOk s y l m a (stX S)=true∧∃ pv cp S',e=.returned (.tuple #[.slice pv S'.length cp,.bool (decide (hitN s l a (stX S)=1)),vI 0])∧stX S'=stp s y l a (stX S)∧InS2 w' pv S'∧Below w.heap.size w w')
theorem one_run (s y l m a:Int) (X:List (List Int)):runOk s y l m X [a]=tOk s y l m a X:=by
  unfold runOk tOk allW;simp
theorem hp_in {w0 w:World} {S:Nat→Prop} {H:List Ent} (h:HP S w0 w H) (i:Nat) {g:Nat} {v:Int} {xs:List Int} (hx:xs=[v]) (hi:H[i]?=some (.cel g #[vI v] 3)):InI w (some ⟨g,0,none⟩) xs:=fun _=>⟨g,0,rfl,fun j hj k u hu=>by
  subst hx;have hj0:j=0:=(by simpa using hj);subst hj0
  match k,hu with
  | 0,hu=>simp at hu;subst hu;exact h.cell i hi rfl
  | k+1,hu=>simp at hu⟩
theorem Touch_any (s y l m a:Int) (p:Option Addr) (S:List SlI) (cp:Nat) (w:World) (hS:InS2 w p S) (hn:S.length≤281474976710656) :
  Calls Tryz.prog 17 #[.agg #[vI s,vI y,vI l,vI m],.slice p S.length cp,vI a] w (TouR s y l m a S w):=by
 refine calls_of Tryz.func17 rfl (m:=25) rfl [(0,.agg #[vI s,vI y,vI l,vI m]),(1,.slice p S.length cp),(2,vI a)] (Fr_enter [.agg #[vI s,vI y,vI l,vI m],.slice p S.length cp,vI a] 25 (Nat.le_of_ble_eq_true rfl)) ?_;have hH1:HP Tr w w []:=HP.refl w;refine WC.seq fun K2 hK2=>WC.region ?_;refine WL.alloc (c:=#[vI s,vI y,vI l,vI m]) (T:=23) hH1 3 rfl (by decide) rfl rfl (fun b3=>vP b3 0) (by kernel_rfl) (fun b3 w3 hw3=>?_);have hH4:HP Tr w w3 [.cel b3 #[vI s,vI y,vI l,vI m] 23]:=hw3.2;have nb3:=hw3.1;clear hw3;refine WL.z (.slice none 0 0) 6 (WL.z (.bool false) 7 (WL.z (vI 0) 8 (WL.k hK2 (WC.seq fun K5 hK5=>WC.region (WL.y (.agg #[vI s,vI y,vI l,vI m]) 13 (x_loadS (cs:=[vI s,vI y,vI l,vI m]) rfl rfl Tryz.underlying23 rfl sz23 (HP.range hH4 0 rfl rfl)) (WL.z (.slice p S.length cp) 14 (WL.z (vI a) 15 ?_)))))));refine WL.alloc (c:=#[vI a]) (T:=3) hH4 16 rfl (by decide) rfl rfl (fun b16=>vS b16 1 1) (by kernel_rfl) (fun b16 w6 hw6=>?_);have hH7:HP Tr w w6 [.cel b3 #[vI s,vI y,vI l,vI m] 23,.cel b16 #[vI a] 3]:=hw6.2;have nb16:=hw6.1;clear hw6;refine WL.c 31 #[.agg #[vI s,vI y,vI l,vI m],.slice p S.length cp,vS b16 1 1] 17 ?_;refine(Run_any s y l m p S cp (some ⟨b16,0,none⟩) [a] 1 _ (hS.below (HP.below hH7)) hn (hp_in hH7 1 rfl rfl) (by simp)).mono ?_;rintro e w4 (⟨hno,rfl,hb⟩ | ⟨hyes,g,S2,rfl,hX,hb,hR⟩)
 ·
  refine⟨_,rfl,?_⟩;have hH8:=HP.call hH7 hb;refine WL.z (.tuple #[.slice none 0 0,vI 0,vI 1]) 12 (WL.z (.slice none 0 0) 18 (WL.z (vI 0) 19 (WL.z (vI 1) 20 (WL.z (.slice none 0 0) 9 (WL.z (vI 0) 10 (WL.z (vI 1) 11 (WL.k hK5 (WC.sb [(0,.agg #[vI s,vI y,vI l,vI m]),(1,.slice p S.length cp),(2,vI a),(3,vP b3 0),(6,.slice none 0 0),(7,.bool false),(8,vI 0),(9,.slice none 0 0),(10,vI 0),(11,vI 1)] (WC.seq fun K9 hK9=>?_)))))))));refine WC.region (WL.z (.slice none 0 0) 21 (WL.z (vI 0) 22 (WL.y (.bool false) 23 (x_eql rfl rfl rfl (by decide)) (WL.z (vI 1) 24 (WL.z (.slice none 0 0) 6 (WL.z (.bool false) 7 (WL.z (vI 1) 8 (WL.k hK9 (WC.sb [(0,.agg #[vI s,vI y,vI l,vI m]),(1,.slice p S.length cp),(2,vI a),(3,vP b3 0),(6,.slice none 0 0),(7,.bool false),(8,vI 1),(9,.slice none 0 0),(10,vI 0),(11,vI 1)] ?_)))))))));refine WC.ret ?_;refine WQ.ret3 6 7 8 rfl rfl rfl rfl ?_;exact .inl ⟨by rw [← one_run];exact hno,rfl,HP.below hH8⟩
 ·
  refine⟨_,rfl,?_⟩;obtain⟨n9,hn9⟩:∃ n9,n9=(runX s y l [a] (stX S,0)).2:=⟨_,rfl⟩;rw [← hn9];have hh:n9=hitN s l a (stX S):=(by rw [hn9];simp [runX]);have hH10:HP Tr w _ [.cel b3 #[vI s,vI y,vI l,vI m] 23,.cel b16 #[vI a] 3,.cel g (sA S2) 32]:=HP.trans hH7 hb;refine WL.z (.tuple #[vS g S.length S.length,vI (n9:Int),vI 0]) 12 (WL.z (vS g S.length S.length) 18 (WL.z (vI (n9:Int)) 19 (WL.z (vI 0) 20 (WL.z (vS g S.length S.length) 9 (WL.z (vI (n9:Int)) 10 (WL.z (vI 0) 11 (WL.k hK5 (WC.sb [(0,.agg #[vI s,vI y,vI l,vI m]),(1,.slice p S.length cp),(2,vI a),(3,vP b3 0),(6,.slice none 0 0),(7,.bool false),(8,vI 0),(9,vS g S.length S.length),(10,vI (n9:Int)),(11,vI 0)] (WC.seq fun K11 hK11=>?_)))))))));refine WC.region (WL.z (vS g S.length S.length) 21 (WL.z (vI (n9:Int)) 22 ?_));by_cases h23:(n9:Int)=1
  ·
   refine WL.y (.bool true) 23 (x_eql rfl rfl rfl (dT (h23))) (WL.z (vI 0) 24 (WL.z (vS g S.length S.length) 6 (WL.z (.bool true) 7 (WL.z (vI 0) 8 (WL.k hK11 (WC.sb [(0,.agg #[vI s,vI y,vI l,vI m]),(1,.slice p S.length cp),(2,vI a),(3,vP b3 0),(6,vS g S.length S.length),(7,.bool true),(8,vI 0),(9,vS g S.length S.length),(10,vI (n9:Int)),(11,vI 0)] (WC.ret ?_)))))));refine WQ.ret3 6 7 8 rfl rfl rfl rfl ?_;exact .inr ⟨by rw [← one_run];exact hyes,some ⟨g,0,none⟩,S.length,S2,by rw [show S2.length=S.length by rw [← stX_len S2,hX,run_length,stX_len],decide_eq_true (by omega)],by rw [hX];rfl,in_cel (HP.get hH10 2 rfl) hR,HP.below hH10⟩
  ·
   refine WL.y (.bool false) 23 (x_eql rfl rfl rfl (dF (h23))) (WL.z (vI 0) 24 (WL.z (vS g S.length S.length) 6 (WL.z (.bool false) 7 (WL.z (vI 0) 8 (WL.k hK11 (WC.sb [(0,.agg #[vI s,vI y,vI l,vI m]),(1,.slice p S.length cp),(2,vI a),(3,vP b3 0),(6,vS g S.length S.length),(7,.bool false),(8,vI 0),(9,vS g S.length S.length),(10,vI (n9:Int)),(11,vI 0)] (WC.ret ?_)))))));refine WQ.ret3 6 7 8 rfl rfl rfl rfl ?_;exact .inr ⟨by rw [← one_run];exact hyes,some ⟨g,0,none⟩,S.length,S2,by rw [show S2.length=S.length by rw [← stX_len S2,hX,run_length,stX_len],decide_eq_false (by omega)],by rw [hX];rfl,in_cel (HP.get hH10 2 rfl) hR,HP.below hH10⟩
theorem rows_in {w0 w:World} {H:List Ent} {S:List SlI} (h:HP Tr w0 w H) (hm:∀ r∈S,rowE r∈H) (hw:∀ r∈S,∀ x∈r.xs,Wi x):∀ r∈S,InR w r:=fun r hr=>(row_InR (h.hold _ (hm r hr)) (hw r hr)).1
theorem out_old {w0 w:World} {B A:List Ent} (h:HP Tr w0 w (B++A)) {b:Nat} (hb:b<w0.heap.size):Out B b:=fun e he hq=>h.fresh e (List.mem_append_left _ he) b hq hb trivial
theorem row_lt {w:World} {g o:Nat} {n:Nat} {f:Nat→List Value} {v:Value} (h:∀ i,i<n→w.rangeAt g (o+i) (f i)) (h0:0<n) (hv:(f 0)[0]?=some v):g<w.heap.size:=World.block_lt_of_cell? w _ (h 0 h0 0 _ hv)
theorem out_in {w0 w W:World} {pv:Option Addr} {cp:Nat} {S2:List SlI} {A H:List Ent} {q:Option Addr} {xs:List Int} (h:HP Tr w0 w ([rowS pv cp S2]++A)) (hI:InI w0 q xs) (h9:HP (Out [rowS pv cp S2]) w W H):InI W q xs:=fun h0=>by
  obtain⟨g,o,hq,hr⟩:=hI h0;exact⟨g,o,hq,fun i hi=>HP.oldRange h9 (out_old h (row_lt hr h0 rfl)) (HP.oldRange (S:=Tr) (HP.of_below (HP.below h)) trivial (hr i hi))⟩
theorem ow_end {w0 w W:World} {pv pv8:Option Addr} {cp cp8:Nat} {S2:List SlI} {r:SlI} (h:HP Tr w0 w ([rowS pv cp S2]++S2.map rowE)) (h2:HP (Out [rowS pv cp S2]) w W [.own (.slice pv8 (S2.length+1) cp8) (S2.length+1) (S2.map slV++[slV r]) 32 1,rowE r]) :
    HP Tr w0 W ([rowS pv8 cp8 (S2++[r])]++(S2++[r]).map rowE):=by
  have h3:=HP.exchF (A:=[rowS pv cp S2]) (B:=S2.map rowE) h h2;have e:(Ent.own (.slice pv8 (S2.length+1) cp8) (S2.length+1) (S2.map slV++[slV r]) 32 1)=rowS pv8 cp8 (S2++[r]):=(by simp [rowS]);rw [e] at h3;refine HP.perm h3 ?_;rw [List.map_append];exact List.Perm.cons _ (List.perm_append_comm (l₁:=[rowE r]) (l₂:=S2.map rowE))
theorem ow_step {S S2:List SlI} {i:Nat} {r:SlI} {pv:Option Addr} {cp:Nat} (h:stX S2=(stX S).take i) (hr:S[i]?=some r):stX (S2++[⟨pv,r.xs,cp⟩])=(stX S).take (i+1):=by
  have e:stX (S2++[⟨pv,r.xs,cp⟩])=stX S2++[r.xs]:=(by simp [stX]);rw [e,h,List.take_add_one];simp [stX,hr]
theorem ow_wi {S2:List SlI} {r:SlI} {pv:Option Addr} {cp:Nat} (h:∀ r∈S2,∀ x∈r.xs,Wi x) (hw:∀ x∈r.xs,Wi x) (r9:SlI) (h9:r9∈S2++[⟨pv,r.xs,cp⟩]):∀ x∈r9.xs,Wi x:=by
  rcases List.mem_append.1 h9 with q | q
  · exact h r9 q
  · obtain rfl:=List.mem_singleton.1 q;exact hw
theorem own_any (p:Option Addr) (S:List SlI) (cp:Nat) (w:World) (hS:InS2 w p S) (hn:S.length*24≤140737488351232) (hx:∀ r∈S,r.xs.length*8≤140737488351232) (hq0:∀ r∈S,r.q=none→r.c=0) :
  Calls Tryz.prog 15 #[.slice p S.length cp] w fun e w'=>∃ pv cp' S',e=.returned (.slice pv S'.length cp')∧stX S'=stX S∧InS2 w' pv S'∧Below w.heap.size w w':=by
 refine calls_of Tryz.func15 rfl (m:=27) rfl [(0,.slice p S.length cp)] (Fr_enter [.slice p S.length cp] 27 (Nat.le_of_ble_eq_true rfl)) ?_;have hH1:HP Tr w w []:=HP.refl w;refine WC.seq fun K2 hK2=>WC.region (WL.z (.slice none 0 0) 2 (WL.k hK2 (WC.seq fun K3 hK3=>WC.region (WL.z (.slice none 0 0) 3 (WL.k hK3 ?_)))));refine WC.seq fun K4 hK4=>WC.seq fun K5 hK5=>WC.region (WL.z (vI 0) 4 (WL.k hK5 (WC.block ?_)));refine WC.loop (fun kk0 ll0 ww0=>∃ (i:Nat) (S2:List SlI) (pv:Option Addr) (cp2:Nat),ll0=[(0,.slice p S.length cp),(3,.slice pv S2.length cp2),(4,vI (i:Int))]∧kk0=S.length-i∧(i≤S.length)∧(stX S2=(stX S).take i)∧(HP Tr w ww0 ([rowS pv cp2 S2]++S2.map rowE))∧(∀ r∈S2,∀ x∈r.xs,Wi x)∧HP Tr ww0 ww0 []) (S.length) [(0,.slice p S.length cp),(3,.slice none 0 0),(4,vI 0)] ⟨rfl,rfl,rfl,trivial⟩ ⟨0,[],none,0,rfl,rfl,Nat.zero_le _,rfl,HP.ownNil hH1 32 1,(fun r h=>by cases h),HP.refl _⟩ ?_;rintro kk l w7 ⟨i,S2,pv,cp2,rfl,hkk,hi,hX9,hI9,hWi9,hH8⟩ K6 hK6;have hl2:S2.length=i:=(by have q9:=congrArg List.length hX9;rw [stX_len,List.length_take,stX_len] at q9;omega);have hInv:=hI9;have hR0:=HP.ownF (A:=[rowS pv cp2 S2]) (B:=S2.map rowE) hI9;have hH9:=HP.startB hR0;refine WC.seq fun K10 hK10=>WC.seq fun K11 hK11=>WC.region (WL.z (vI (i:Int)) 5 (WL.z (.slice p S.length cp) 6 (WL.z (vI (S.length:Int)) 7 ?_)));by_cases hlt:(i:Int)<(S.length:Int)
 ·
  refine WL.y (.bool true) 8 (x_lss rfl rfl rfl (dT (hlt))) (WL.k hK11 ?_);refine WC.yes rfl ?_;refine WC.skip (WQ.then (hK10 _ _ _ (WC.seq fun K12 hK12=>WC.block ?_)));obtain⟨r,hr⟩:∃ r,S[i]?=some r:=⟨S[i]'(by omega),List.getElem?_eq_getElem _⟩;obtain⟨hr1,hr2,hr3,hr4⟩:=stX_at hr;obtain⟨gS,oS,hpS,hrowS0⟩:=hS.row (by omega);have hgSl:=row_lt hrowS0 (show 0<S.length by omega) rfl;have hrowS:=fun i9 h9=>HP.oldRange (S:=Tr) (HP.of_below (HP.below hInv)) trivial (hrowS0 i9 h9);have hgS:=out_old hInv hgSl;have hIRw:=hS.inn r hr4;have hIR:=hIRw.below (HP.below hInv);have hxn:=hx r hr4;subst hpS;have hsrc9:∀ {W:World} {H:List Ent},HP (Out [rowS pv cp2 S2]) w7 W H→(∃ a,r.q=some a∧∀ q u,(iR r.xs)[q]?=some u→W.cell? (a.add q)=some u)∨(r.q=none∧r.xs.length=0∧r.c=0):=fun h9=>src_of (out_in hInv hIRw.row h9) (by rw [List.take_length]) (hq0 r hr4);obtain⟨j0,hj0,jz0,jz1,jz2⟩:=infoI;obtain⟨i0,hi0,hz0,hz1,hz2⟩:=infoL;refine WC.confH (γ:=Nat × Option Addr × Nat × Nat × Option Addr × Nat × Unit) [(8,.bool true),(7,vI (S.length:Int)),(6,.slice (some ⟨gS,oS,none⟩) S.length cp),(5,vI (i:Int)),(0,.slice (some ⟨gS,oS,none⟩) S.length cp),(3,.slice pv S2.length cp2),(4,vI (i:Int))] (fun gy=>[.slice pv S2.length cp2,.slice (some ⟨gS,oS,none⟩) S.length cp,vI (i:Int),vP gS (oS+i),.slice r.q r.xs.length r.c,vI (r.xs.length:Int),vI ((r.xs.length+2:Nat):Int),vS gy.1 0 (r.xs.length+2),.slice (some ⟨gS,oS,none⟩) S.length cp,vI (i:Int),vP gS (oS+i),.slice r.q r.xs.length r.c,.slice gy.2.1 r.xs.length gy.2.2.1,vS gy.2.2.2.1 1 1,.slice gy.2.2.2.2.1 (S2.length+1) gy.2.2.2.2.2.1,.slice gy.2.2.2.2.1 (S2.length+1) gy.2.2.2.2.2.1]) (fun gy D wz=>HP (Out [rowS pv cp2 S2]) w7 wz ([(bif D 14 then Ent.own (.slice gy.2.2.2.2.1 (S2.length+1) gy.2.2.2.2.2.1) (S2.length+1) (S2.map slV++[.slice gy.2.1 r.xs.length gy.2.2.1]) 32 1 else rowS pv cp2 S2)]++((bif D 7 then [(bif D 12 then rowI' gy.2.1 gy.2.2.1 r.xs else Ent.own (.slice (some ⟨gy.1,0,none⟩) 0 (r.xs.length+2)) 0 [] 3 1)] else [])++((bif D 13 then [Ent.cel gy.2.2.2.1 #[.slice gy.2.1 r.xs.length gy.2.2.1] 32] else [])++[])))) (0,none,0,0,none,0,()) (by kernel_rfl) ⟨rfl,rfl,rfl,rfl,rfl,rfl,rfl,trivial⟩ (by kernel_rfl) (by kernel_rfl) (by kernel_rfl) (fun _=>rfl) (by kernel_rfl) (HP.drew hH9) ?_ ?_
  ·
   refine AllOk.cons ?o0 (AllOk.cons ?o1 (AllOk.cons ?o2 (AllOk.cons ?o3 (AllOk.cons ?o4 (AllOk.cons ?o5 (AllOk.cons ?o6 (AllOk.cons ?o7 (AllOk.cons ?o8 (AllOk.cons ?o9 (AllOk.cons ?o10 (AllOk.cons ?o11 (AllOk.cons ?o12 (AllOk.cons ?o13 (AllOk.cons ?o14 (AllOk.cons ?o15 (AllOk.nil _))))))))))))))))
   case o0 =>
    intro gy D wz hDi hdep hclo hW;exact cfv gy wz (by kernel_rfl) hW
   case o1 =>
    intro gy D wz hDi hdep hclo hW;exact cfv gy wz (by kernel_rfl) hW
   case o2 =>
    intro gy D wz hDi hdep hclo hW;exact cfv gy wz (by kernel_rfl) hW
   case o3 =>
    intro gy D wz hDi hdep hclo hW;exact cfv gy wz (x_ix (i) (oS+i) Tryz.underlying33 sz32) hW
   case o4 =>
    intro gy D wz hDi hdep hclo hW;exact cfv gy wz (x_load rfl rfl Tryz.underlying32 rfl (by have q9:=(HP.oldRange hW hgS (hrowS i (by omega))) 0 _ rfl;rw [hr2] at q9;exact q9)) hW
   case o5 =>
    intro gy D wz hDi hdep hclo hW;exact cfv gy wz (by kernel_rfl) hW
   case o6 =>
    intro gy D wz hDi hdep hclo hW;exact cfv gy wz (x_ad (((r.xs.length+2:Nat):Int))) hW
   case o7 =>
    intro gy D wz hDi hdep hclo hW;have d12:D 12=false:=by
     cases h:D 12 with
     | false=>rfl
     | true=>exact absurd (hclo 12 _ rfl h ⟨7,.data⟩ (by simp) rfl) (by rw [hDi];exact Bool.false_ne_true)
    have d13:D 13=false:=by
     cases h:D 13 with
     | false=>rfl
     | true=>exact absurd (hclo 13 _ rfl h ⟨12,.data⟩ (by simp) rfl) (by rw [d12];exact Bool.false_ne_true)
    have d14:D 14=false:=by
     cases h:D 14 with
     | false=>rfl
     | true=>exact absurd (hclo 14 _ rfl h ⟨12,.chain⟩ (by simp) rfl) (by rw [d12];exact Bool.false_ne_true)
    have hW2:=hW
    try simp only [d12,d13,d14,hDi,cond_true,cond_false,List.append_nil,List.nil_append,List.cons_append] at hW2
    refine cf_makeOwn hW2 rfl rfl rfl rfl rfl (cap:=r.xs.length+2) (by omega) Tryz.underlying32 hj0 jz0 jz1 jz2 rfl (by omega) (by unfold maxLen;omega) ?_;rintro b18 w3 hA;refine⟨⟨b18,gy.2.1,gy.2.2.1,gy.2.2.2.1,gy.2.2.2.2.1,gy.2.2.2.2.2.1,()⟩,fun j hj=>?_,rfl,?_⟩
    ·
     match j,hj with
     | 0,hj=>rfl
     | 1,hj=>rfl
     | 2,hj=>rfl
     | 3,hj=>rfl
     | 4,hj=>rfl
     | 5,hj=>rfl
     | 6,hj=>rfl
     | 7,hj=>rw [hDi] at hj;cases hj
     | 8,hj=>rfl
     | 9,hj=>rfl
     | 10,hj=>rfl
     | 11,hj=>rfl
     | 12,hj=>rfl
     | 13,hj=>rfl
     | 14,hj=>rfl
     | 15,hj=>rfl
     | j+16,_=>rfl
    ·
     show HP (Out [rowS pv cp2 S2]) w7 w3 ([(bif D 14 then Ent.own (.slice gy.2.2.2.2.1 (S2.length+1) gy.2.2.2.2.2.1) (S2.length+1) (S2.map slV++[.slice gy.2.1 r.xs.length gy.2.2.1]) 32 1 else rowS pv cp2 S2)]++([(bif D 12 then rowI' gy.2.1 gy.2.2.1 r.xs else Ent.own (.slice (some ⟨b18,0,none⟩) 0 (r.xs.length+2)) 0 [] 3 1)]++((bif D 13 then [Ent.cel gy.2.2.2.1 #[.slice gy.2.1 r.xs.length gy.2.2.1] 32] else [])++[])))
     try simp only [d12,d13,d14,cond_true,cond_false,List.append_nil,List.nil_append,List.cons_append]
     exact hA
   case o8 =>
    intro gy D wz hDi hdep hclo hW;exact cfv gy wz (by kernel_rfl) hW
   case o9 =>
    intro gy D wz hDi hdep hclo hW;exact cfv gy wz (by kernel_rfl) hW
   case o10 =>
    intro gy D wz hDi hdep hclo hW;exact cfv gy wz (x_ix (i) (oS+i) Tryz.underlying33 sz32) hW
   case o11 =>
    intro gy D wz hDi hdep hclo hW;exact cfv gy wz (x_load rfl rfl Tryz.underlying32 rfl (by have q9:=(HP.oldRange hW hgS (hrowS i (by omega))) 0 _ rfl;rw [hr2] at q9;exact q9)) hW
   case o12 =>
    intro gy D wz hDi hdep hclo hW;have d7:D 7=true:=hdep ⟨7,.data⟩ (by simp) rfl;have d13:D 13=false:=by
     cases h:D 13 with
     | false=>rfl
     | true=>exact absurd (hclo 13 _ rfl h ⟨12,.data⟩ (by simp) rfl) (by rw [hDi];exact Bool.false_ne_true)
    have d14:D 14=false:=by
     cases h:D 14 with
     | false=>rfl
     | true=>exact absurd (hclo 14 _ rfl h ⟨12,.chain⟩ (by simp) rfl) (by rw [hDi];exact Bool.false_ne_true)
    have hW2:=hW
    try simp only [d7,d13,d14,hDi,cond_true,cond_false,List.append_nil,List.nil_append,List.cons_append] at hW2
    refine cf_appendSrc (iR r.xs) 1 hW2 rfl rfl rfl rfl rfl Tryz.underlying32 hj0 jz0 jz1 jz2 rfl (by decide) rfl (hsrc9 hW2) (by simp) (fun u hu=>by obtain⟨x9,_,rfl⟩:=List.mem_map.1 hu;rfl) (by unfold maxLen;omega) (by omega) ?_;rintro v7 w3 hA;obtain⟨pv7,cp7,rfl⟩:=own_row (HP.get hA 1 rfl);rw [Nat.zero_add,List.nil_append] at hA;rw [show 0+r.xs.length=r.xs.length from Nat.zero_add _];refine⟨⟨gy.1,pv7,cp7,gy.2.2.2.1,gy.2.2.2.2.1,gy.2.2.2.2.2.1,()⟩,fun j hj=>?_,rfl,?_⟩
    ·
     match j,hj with
     | 0,hj=>rfl
     | 1,hj=>rfl
     | 2,hj=>rfl
     | 3,hj=>rfl
     | 4,hj=>rfl
     | 5,hj=>rfl
     | 6,hj=>rfl
     | 7,hj=>rfl
     | 8,hj=>rfl
     | 9,hj=>rfl
     | 10,hj=>rfl
     | 11,hj=>rfl
     | 12,hj=>rw [hDi] at hj;cases hj
     | 13,hj=>rfl
     | 14,hj=>rfl
     | 15,hj=>rfl
     | j+16,_=>rfl
    ·
     show HP (Out [rowS pv cp2 S2]) w7 w3 ([(bif D 14 then Ent.own (.slice gy.2.2.2.2.1 (S2.length+1) gy.2.2.2.2.2.1) (S2.length+1) (S2.map slV++[.slice pv7 r.xs.length cp7]) 32 1 else rowS pv cp2 S2)]++((bif D 7 then [rowI' pv7 cp7 r.xs] else [])++((bif D 13 then [Ent.cel gy.2.2.2.1 #[.slice pv7 r.xs.length cp7] 32] else [])++[])))
     try simp only [d7,d13,d14,cond_true,cond_false,List.append_nil,List.nil_append,List.cons_append]
     exact hA
   case o13 =>
    intro gy D wz hDi hdep hclo hW;have d12:D 12=true:=hdep ⟨12,.data⟩ (by simp) rfl;have d7:D 7=true:=hclo 12 _ rfl d12 ⟨7,.data⟩ (by simp) rfl;have d14:D 14=false:=by
     cases h:D 14 with
     | false=>rfl
     | true=>exact absurd (hclo 14 _ rfl h ⟨13,.data⟩ (by simp) rfl) (by rw [hDi];exact Bool.false_ne_true)
    have hW2:=hW
    try simp only [d7,d12,d14,hDi,cond_true,cond_false,List.append_nil,List.nil_append,List.cons_append] at hW2
    refine cf_alloc (c:=#[.slice gy.2.1 r.xs.length gy.2.2.1]) (T:=32) hW2 (fun b24=>vS b24 1 1) rfl rfl (by kernel_rfl) ?_;rintro b24 w3 hA;refine⟨⟨gy.1,gy.2.1,gy.2.2.1,b24,gy.2.2.2.2.1,gy.2.2.2.2.2.1,()⟩,fun j hj=>?_,rfl,?_⟩
    ·
     match j,hj with
     | 0,hj=>rfl
     | 1,hj=>rfl
     | 2,hj=>rfl
     | 3,hj=>rfl
     | 4,hj=>rfl
     | 5,hj=>rfl
     | 6,hj=>rfl
     | 7,hj=>rfl
     | 8,hj=>rfl
     | 9,hj=>rfl
     | 10,hj=>rfl
     | 11,hj=>rfl
     | 12,hj=>rfl
     | 13,hj=>rw [hDi] at hj;cases hj
     | 14,hj=>rfl
     | 15,hj=>rfl
     | j+16,_=>rfl
    ·
     show HP (Out [rowS pv cp2 S2]) w7 w3 ([(bif D 14 then Ent.own (.slice gy.2.2.2.2.1 (S2.length+1) gy.2.2.2.2.2.1) (S2.length+1) (S2.map slV++[.slice gy.2.1 r.xs.length gy.2.2.1]) 32 1 else rowS pv cp2 S2)]++((bif D 7 then [(bif D 12 then rowI' gy.2.1 gy.2.2.1 r.xs else Ent.own (.slice (some ⟨gy.1,0,none⟩) 0 (r.xs.length+2)) 0 [] 3 1)] else [])++([Ent.cel b24 #[.slice gy.2.1 r.xs.length gy.2.2.1] 32]++[])))
     try simp only [d7,d12,d14,cond_true,cond_false,List.append_nil,List.nil_append,List.cons_append]
     exact hA
   case o14 =>
    intro gy D wz hDi hdep hclo hW;have d12:D 12=true:=hdep ⟨12,.chain⟩ (by simp) rfl;have d7:D 7=true:=hclo 12 _ rfl d12 ⟨7,.data⟩ (by simp) rfl;have d13:D 13=true:=hdep ⟨13,.data⟩ (by simp) rfl;have d15:D 15=false:=by
     cases h:D 15 with
     | false=>rfl
     | true=>exact absurd (hclo 15 _ rfl h ⟨14,.data⟩ (by simp) rfl) (by rw [hDi];exact Bool.false_ne_true)
    have hW2:=hW
    try simp only [d7,d12,d13,hDi,cond_true,cond_false,List.append_nil,List.nil_append,List.cons_append] at hW2
    refine cf_append (news:=[.slice gy.2.1 r.xs.length gy.2.2.1]) 0 2 hW2 rfl rfl rfl rfl rfl Tryz.underlying33 hi0 hz0 hz1 hz2 rfl (by decide) rfl rfl rfl rfl (by simp [Value.oneCell']) (by unfold maxLen;omega) (by omega) ?_;rintro v8 w3 hA;obtain⟨pv8,cp8,rfl⟩:=own_row (HP.get hA 0 rfl);refine⟨⟨gy.1,gy.2.1,gy.2.2.1,gy.2.2.2.1,pv8,cp8,()⟩,fun j hj=>?_,rfl,?_⟩
    ·
     match j,hj with
     | 0,hj=>rfl
     | 1,hj=>rfl
     | 2,hj=>rfl
     | 3,hj=>rfl
     | 4,hj=>rfl
     | 5,hj=>rfl
     | 6,hj=>rfl
     | 7,hj=>rfl
     | 8,hj=>rfl
     | 9,hj=>rfl
     | 10,hj=>rfl
     | 11,hj=>rfl
     | 12,hj=>rfl
     | 13,hj=>rfl
     | 14,hj=>rw [hDi] at hj;cases hj
     | 15,hj=>exact absurd hj (by rw [d15];exact Bool.false_ne_true)
     | j+16,_=>rfl
    ·
     show HP (Out [rowS pv cp2 S2]) w7 w3 ([Ent.own (.slice pv8 (S2.length+1) cp8) (S2.length+1) (S2.map slV++[.slice gy.2.1 r.xs.length gy.2.2.1]) 32 1]++((bif D 7 then [(bif D 12 then rowI' gy.2.1 gy.2.2.1 r.xs else Ent.own (.slice (some ⟨gy.1,0,none⟩) 0 (r.xs.length+2)) 0 [] 3 1)] else [])++((bif D 13 then [Ent.cel gy.2.2.2.1 #[.slice gy.2.1 r.xs.length gy.2.2.1] 32] else [])++[])))
     try simp only [d7,d12,d13,cond_true,cond_false,List.append_nil,List.nil_append,List.cons_append]
     exact hA
   case o15 =>
    intro gy D wz hDi hdep hclo hW;exact cfv gy wz (by kernel_rfl) hW
  rintro ⟨b18,pv7,cp7,b24,pv8,cp8,gu⟩ D w19 hall hH20;simp only [hall 7 (by kernel_rfl),hall 12 (by kernel_rfl),hall 13 (by kernel_rfl),hall 14 (by kernel_rfl),cond_true,List.append_nil,List.nil_append,List.cons_append] at hH20;clear hall;refine WQ.sb [(0,.slice (some ⟨gS,oS,none⟩) S.length cp),(3,.slice pv8 (S2.length+1) cp8),(4,vI (i:Int)),(8,.bool true)] (WQ.inNormal (WQ.then (hK12 _ _ _ (WC.region (WL.z (vI (i:Int)) 9 (WL.y (vI ((i+1:Nat):Int)) 10 (x_ad (((i+1:Nat):Int))) (WL.z (vI ((i+1:Nat):Int)) 4 (WL.nil ?_))))))));have hE9:HP Tr w _ ([rowS pv8 cp8 (S2++[(⟨pv7,r.xs,cp7⟩:SlI)])]++(S2++[(⟨pv7,r.xs,cp7⟩:SlI)]).map rowE):=ow_end hInv (HP.drop hH20 2);rw [show S2.length+1=(S2++[(⟨pv7,r.xs,cp7⟩:SlI)]).length by simp];refine WQ.sb [(0,.slice (some ⟨gS,oS,none⟩) S.length cp),(3,.slice pv8 ((S2++[(⟨pv7,r.xs,cp7⟩:SlI)]).length) cp8),(4,vI ((i+1:Nat):Int))] ?_;refine WQ.then (hK6 _ _ _ (by omega) ⟨i+1,(S2++[(⟨pv7,r.xs,cp7⟩:SlI)]),pv8,cp8,rfl,rfl,by omega,ow_step hX9 hr,hE9,fun r9 h9=>ow_wi hWi9 hIRw.hw r9 h9,HP.refl _⟩)
 ·
  refine WL.y (.bool false) 8 (x_lss rfl rfl rfl (dF (hlt))) (WL.k hK11 ?_);refine WC.no rfl ?_;refine WC.exit (WQ.thenExit (WQ.thenExit (WQ.inExit (WQ.then (hK4 _ _ _ (WC.seq fun K21 hK21=>WC.region (WL.z (.slice pv S2.length cp2) 26 (WL.z (.slice pv S2.length cp2) 2 (WL.nil (WQ.then ?_))))))))));refine hK21 _ _ _ (WC.ret ?_);refine WQ.ret1 2 rfl rfl ?_;rw [List.take_of_length_le (by rw [stX_len];omega)] at hX9;exact⟨pv,cp2,S2,rfl,hX9,in_own (hI9.hold (rowS pv cp2 S2) (by simp)) (rows_in hI9 (fun r9 h9=>by simp;exact .inr ⟨r9,h9,rfl⟩) hWi9),HP.below hI9⟩
end Ca
end Go.Proofs.YtmjnakhpekbenaaGreat
namespace Go.Proofs.YtmjnakhpekbenaaGreat
open Go.RowKit Fw
namespace Ca
structure TbI where
  q:Option Addr
  t:List T2
  c:Nat
abbrev tbV (r:TbI):Value:=.slice r.q r.t.length r.c
def upA (A:Nat→TbI) (i:Nat) (r:TbI):Nat→TbI:=fun j=>if j=i then r else A j
def aR (n:Nat) (A:Nat→TbI):Array Value:=(Array.range n).map fun i=>tbV (A i)
theorem aR_size (n:Nat) (A:Nat→TbI):(aR n A).size=n:=by simp [aR]
theorem aR_get {n i:Nat} {A:Nat→TbI} (h:i<n):(aR n A)[i]?=some (tbV (A i)):=by simp [aR,h]
theorem aR_set (n i:Nat) (A:Nat→TbI) (r:TbI):(aR n A).setIfInBounds i (tbV r)=aR n (upA A i r):=by
  apply Array.ext
  · simp [aR]
  · intro j h1 h2
    rw [Array.getElem_setIfInBounds (by simpa using h1)];by_cases e:i=j
    · subst e;simp [aR,upA]
    · rw [if_neg e];simp [aR,upA,Ne.symm e]
def tabs (A:Nat→TbI):Nat→List T2:=fun i=>(A i).t
theorem tabs_up (A:Nat→TbI) (i:Nat) (r:TbI):tabs (upA A i r)=Fl.up (tabs A) i r.t:=by
  funext j;unfold tabs upA Fl.up;split <;> rfl
structure TbOk (s y l m:Int) (w:World) (r:TbI):Prop where
  inn:InT w r.q r.t
  ok:VT s y l m r.t
abbrev pE (pb:Nat) (cq:Option Addr) (n cap b6 b4 fj ga:Nat):Ent:=.cel pb #[.slice cq n cap,.func (.func 33) #[] #[vP b6 0,vP b4 0],.func (.func fj) #[] #[],.func (.func 34) #[] #[],.func (.func 35) #[] #[],vS ga n n] 71
abbrev aE (ga n:Nat) (A:Nat→TbI):Ent:=.cel ga (aR n A) 64
theorem aR_in {n i:Nat} {A:Nat→TbI} {v:Value} (h:(aR n A)[i]?=some v):∃ r,v=tbV r:=by
  have hi:i<n:=by
    have:=(Array.getElem?_eq_some_iff.1 h).1;simpa [aR] using this
  rw [aR_get hi] at h;cases h;exact⟨_,rfl⟩
theorem out_int {w:World} {pb n cap b6 b4 fj ga:Nat} {cq:Option Addr} {A:Nat→TbI} (hB:OwnB w [pE pb cq n cap b6 b4 fj ga,aE ga n A]) {b o:Nat} {x:Int} (hc:w.cell? ⟨b,o,none⟩=some (vI x)):Out [pE pb cq n cap b6 b4 fj ga,aE ga n A] b:=fun e he hb=>by
  rcases List.mem_cons.1 he with rfl | he
  · cases hb
    have h2:=hB.1 (pE pb cq n cap b6 b4 fj ga) (by simp);rw [cell_of_row w pb o _ 71 (0,0) h2] at hc
    match o,hc with
    | 0,hc=>simp at hc
    | 1,hc=>simp at hc
    | 2,hc=>simp at hc
    | 3,hc=>simp at hc
    | 4,hc=>simp at hc
    | 5,hc=>simp at hc
    | o+6,hc=>simp at hc
  · obtain rfl := List.mem_singleton.1 he
    cases hb;have h2:=hB.1 (aE ga n A) (by simp);rw [cell_of_row w ga o _ 64 (0,0) h2] at hc;obtain⟨r,hr⟩:=aR_in hc;cases hr
structure Env (s y l m:Int) (pb:Nat) (cq:Option Addr) (n cap b6 b4 fh fj ga:Nat) (c A B:Nat→Int) (w:World) (T:Nat→TbI):Prop where
  own:OwnB w [pE pb cq n cap b6 b4 fj ga,aE ga n T]
  code:Ec.InC w cq n c A B
  geo:w.rangeAt b4 0 [vI s,vI y,vI l,vI m]
  how:w.cell? ⟨b6,0,none⟩=some (.func (.func fh) #[] #[])
  nb:b6≠pb∧b6≠ga
theorem keepT {s y l m:Int} {w w':World} {B H:List Ent} {r:TbI} (h:TbOk s y l m w r) (hO:∀ b o x,w.cell? ⟨b,o,none⟩=some (vI x)→Out B b) (hp:HP (Out B) w w' H):TbOk s y l m w' r:=⟨fun h0=>by
    obtain⟨g,o,hq,hr⟩:=h.inn h0;exact⟨g,o,hq,fun i hi=>HP.oldRange hp (hO g _ _ (hr i hi 0 _ rfl)) (hr i hi)⟩,h.ok⟩
theorem Env.keep {s y l m:Int} {pb n cap b6 b4 fh fj ga:Nat} {cq:Option Addr} {c A B:Nat→Int} {w w':World} {T T':Nat→TbI} {H:List Ent} (h:Env s y l m pb cq n cap b6 b4 fh fj ga c A B w T) (hp:HP (Out [pE pb cq n cap b6 b4 fj ga,aE ga n T]) w w' (pE pb cq n cap b6 b4 fj ga::aE ga n T'::H)):Env s y l m pb cq n cap b6 b4 fh fj ga c A B w' T' :=
  ⟨HP.ownF (A:=[pE pb cq n cap b6 b4 fj ga,aE ga n T']) (B:=H) hp,fun h0=>by
    obtain⟨g,o,hq,hr⟩:=h.code h0;exact⟨g,o,hq,fun i hi=>HP.oldRange hp (out_int h.own (hr i hi 0 _ rfl)) (hr i hi)⟩,HP.oldRange hp (out_int h.own (h.geo 0 _ rfl)) h.geo,
    HP.old hp (fun e he hb=>by
      rcases List.mem_cons.1 he with rfl | he
      · cases hb;exact h.nb.1 rfl
      · obtain rfl:=List.mem_singleton.1 he;cases hb;exact h.nb.2 rfl) h.how,h.nb⟩
theorem Env.tab {s y l m:Int} {pb n cap b6 b4 fh fj ga:Nat} {cq:Option Addr} {c A B:Nat→Int} {w w':World} {T:Nat→TbI} {H:List Ent} {r:TbI} (h:Env s y l m pb cq n cap b6 b4 fh fj ga c A B w T) (hr:TbOk s y l m w r) (hp:HP (Out [pE pb cq n cap b6 b4 fj ga,aE ga n T]) w w' H):TbOk s y l m w' r:=keepT hr (fun b o x hc=>out_int h.own hc) hp
def TabR (s y l m:Int) (pb:Nat) (cq:Option Addr) (n cap b6 b4 fj ga:Nat) (T:Nat→TbI) (X:List T2 × (Nat→List T2)) (w:World) (e:Ending) (w':World):Prop :=
  ∃ r' T',e=.returned (tbV r')∧HP (Out [pE pb cq n cap b6 b4 fj ga,aE ga n T]) w w' [pE pb cq n cap b6 b4 fj ga,aE ga n T']∧TbOk s y l m w' r'∧(∀ i,TbOk s y l m w' (T' i))∧(r'.t,tabs T')=X
def cdOf (c:Nat→Int) (n:Nat):Fl.Cd:=⟨c,(Ec.shD c n).e,(Ec.shD c n).d,(Ec.shD c n).o⟩
theorem Opens_at {x:Int} {r:Bool} (h:Ec.opn x=r) (w:World):Calls Tryz.prog 46 #[vI x] w fun e w'=>e=.returned (.bool r)∧w=w':=h ▸ Ec.Opens_any x w
theorem Match_at {p:Option Addr} {n cap:Nat} {c A B:Nat→Int} {i:Nat} {x z:Int} (h1:Ec.maA c A B n (i:Int)=x) (h2:Ec.maE c A B n (i:Int)=z) (w:World) (hIn:Ec.InC w p n c A B) (hn:n≤400) (hi:i<n) :
    Calls Tryz.prog 47 #[.slice p n cap,vI (i:Int)] w fun e w'=>e=.returned (.tuple #[vI x,vI z,vI (Ec.maF c A B n (i:Int))])∧Below w.heap.size w w':=by
  have:=Ec.Match2_any p n cap c A B (i:Int) w hIn hn (by omega) (by omega);unfold Ec.MaV at this;rw [h1,h2] at this;exact this
theorem TbOk.below {s y l m:Int} {w w':World} {r:TbI} (h:TbOk s y l m w r) (hb:Below w.heap.size w w'):TbOk s y l m w' r:=⟨h.inn.below hb,h.ok⟩
def brkP (O:Fl.Ops (List T2)) (C:Fl.Cd) (i E:Nat) (f:List T2→(Nat→List T2)→List T2 × (Nat→List T2)) (t:List T2) (ah:Nat→List T2):List T2 × (Nat→List T2) :=
  if C.c i=29 then (O.F E (O.J t (f t ah).1),Fl.up (f t ah).2 E (O.J t (f t ah).1))
  else if C.c i=30 then (O.J t (Fl.iter O (Fl.last O f E) (O.mu t) t ah).1,(Fl.iter O (Fl.last O f E) (O.mu t) t ah).2)
  else Fl.last O f E t ah
def brkA (O:Fl.Ops (List T2)) (C:Fl.Cd) (i a E:Nat) (f g:List T2→(Nat→List T2)→List T2 × (Nat→List T2)) (t:List T2) (ah:Nat→List T2):List T2 × (Nat→List T2) :=
  (O.J (Fl.last O f a t ah).1 (Fl.last O g E (if C.c i=29 then t else Fl.fold O (Fl.last O f a t ah).2 (i+1) (a-(i+1)) t) (Fl.last O f a t ah).2).1,
   (Fl.last O g E (if C.c i=29 then t else Fl.fold O (Fl.last O f a t ah).2 (i+1) (a-(i+1)) t) (Fl.last O f a t ah).2).2)
theorem sol_plain (O:Fl.Ops (List T2)) (C:Fl.Cd) (i E:Nat) (b r:Fl.Tr) (t:List T2) (ah:Nat→List T2) :
    Fl.sol O C (.plain i E b r) t ah=Fl.sol O C r (brkP O C i E (Fl.sol O C b) (O.F i t) (Fl.up ah i t)).1 (brkP O C i E (Fl.sol O C b) (O.F i t) (Fl.up ah i t)).2:=by
  rw [Fl.sol];unfold brkP;by_cases h1:C.c i=29
  · simp only [if_pos h1]
  · by_cases h2 : C.c i = 30
    · simp only [if_neg h1,if_pos h2]
    · simp only [if_neg h1,if_neg h2]
theorem sol_alt (O:Fl.Ops (List T2)) (C:Fl.Cd) (i a E:Nat) (b1 b2 r:Fl.Tr) (t:List T2) (ah:Nat→List T2) :
    Fl.sol O C (.alt i a E b1 b2 r) t ah=Fl.sol O C r (brkA O C i a E (Fl.sol O C b1) (Fl.sol O C b2) (O.F i t) (Fl.up ah i t)).1 (brkA O C i a E (Fl.sol O C b1) (Fl.sol O C b2) (O.F i t) (Fl.up ah i t)).2:=by
  rw [Fl.sol];rfl
def BrAll (P:Nat→Nat→Fl.Tr→Prop) (Q:Nat→Nat→Nat→Fl.Tr→Fl.Tr→Prop):Fl.Tr→Prop
  | .nil=>True
  | .one _ r=>BrAll P Q r
  | .plain i E b r=>P i E b∧BrAll P Q r
  | .alt i a E b1 b2 r=>Q i a E b1 b2∧BrAll P Q r
theorem ma_of {c A B:Nat→Int} {n i:Nat} (hc:Ec.chk c A B false n=0) (hi:i<n) (ho:Ec.opn (c i)=true):Ec.maA c A B n (i:Int)=(Ec.shD c n).e i∧Ec.maE c A B n (i:Int)=(Ec.shD c n).d i:=by
  have h1:Ec.idE c A B n (i:Int)=0:=Ec.idE_in hc ⟨by omega,by omega⟩;have h2:Ec.maF c A B n (i:Int)=0:=(by unfold Ec.maF;rw [h1,Int.toNat_natCast,ho];simp);unfold Ec.maA Ec.maE;rw [if_pos h2,if_pos h2,Int.toNat_natCast];exact⟨rfl,rfl⟩
theorem line_of {l:Int} {i:Nat} (hl:1≤l∧l≤8) (hi:i≤999):0≤(i:Int)/l∧(i:Int)/l≤999:=line_bd hl ⟨by omega,by omega⟩
theorem sz51:(Tryz.prog.info? 51).map (·.size)=some 3:=by kernel_rfl
end Ca
end Go.Proofs.YtmjnakhpekbenaaGreat
namespace Go.Proofs.YtmjnakhpekbenaaGreat
open Fw
namespace Ca
open Ec
section
variable {c : Nat → Int} {n : Nat} {s : Sh}
theorem shp_ex (B:Bal c n s) {k:Nat} (hk:k≤n):∃ sk,shp c k=some sk:=shp_back B.hs hk
theorem else_at (B:Bal c n s) {i:Nat} (hi:i<n) (h:c i=34) {si:Sh} (hsi:shp c i=some si):∃ r x,si.l=r++[x]∧s.e x=(i:Int)∧s.o i=(x:Int)∧(c x=29∨c x=33):=by
  obtain⟨s1,hs1⟩:=shp_ex B (k:=i+1) (by omega);obtain⟨si',e1,hst⟩:=shp_succ hs1;rw [hsi] at e1;cases e1;rcases stp_inv hst with ⟨h1,-⟩ | ⟨-,h1,-⟩ | ⟨-,r,x,hl,h2,h3,e⟩ | ⟨h1,-⟩
  · rw [opn_iff] at h1;omega
  · exact absurd h h1
  · refine ⟨r, x, hl, ?_, ?_, two_iff.1 h2⟩
    · have hx : x < i := (inv_of i si hsi).lt x (by rw [hl]; simp)
      have hex:s1.e x=(i:Int):=(by rw [e];exact upI_same _ _ _);rcases (frz_at hs1 B.hs (by omega)).e x (by omega) with q | ⟨q,-⟩
      · rw [q,hex]
      · rw [hex] at q;omega
    · rw [o_eq B hi hsi,hl,top_app]
  · omega
theorem end_at (B:Bal c n s) {i:Nat} (hi:i<n) (h:c i=35) {si:Sh} (hsi:shp c i=some si):∃ r x s1,si.l=r++[x]∧shp c (i+1)=some s1∧s1.l=r∧s.d x=(i:Int)∧s.o i=(x:Int)∧¬ (c x=33∧si.e x<0):=by
  obtain⟨s1,hs1⟩:=shp_ex B (k:=i+1) (by omega);obtain⟨si',e1,hst⟩:=shp_succ hs1;rw [hsi] at e1;cases e1;rcases stp_inv hst with ⟨h1,-⟩ | ⟨-,-,h1,-⟩ | ⟨h1,-⟩ | ⟨-,r,x,hl,h2,e⟩
  · rw [opn_iff] at h1;omega
  · exact absurd h h1
  · omega
  · have I := inv_of i si hsi
    have hx:x<i:=I.lt x (by rw [hl];simp);have hxr:x ∉ r:=fun q=>by
      have h3:=I.inc;rw [hl] at h3;have:=(List.pairwise_append.1 h3).2.2 x q x (by simp);omega
    have hdx:s1.d x=(i:Int):=(by rw [e];exact upI_same _ _ _);refine⟨r,x,s1,hl,hs1,by rw [e],?_,by rw [o_eq B hi hsi,hl,top_app],fun q=>h2 ⟨q.1,by rw [upI_ne (by omega)];exact q.2⟩⟩;have:=((frz_at hs1 B.hs (by omega)).out x (by omega) (by rw [e];exact hxr)).2.2;rw [this,hdx]
theorem opens (B:Bal c n s) {k:Nat} (hk:k<n) (ho:opn (c k)=true) {sk:Sh} (hsk:shp c k=some sk):∃ s1,shp c (k+1)=some s1∧s1.l=sk.l++[k] :=
  ⟨_,shp_open hsk ho,rfl⟩
theorem end_of (B:Bal c n s) {k:Nat} (hk:k<n) (ho:opn (c k)=true) {sk:Sh} (hsk:shp c k=some sk) :
    ∃ (E:Nat) (sE s1:Sh),s.d k=(E:Int)∧k<E∧E<n∧c E=35∧shp c E=some sE∧sE.l=sk.l++[k]∧shp c (E+1)=some s1∧s1.l=sk.l∧s.o E=(k:Int)∧¬ (c k=33∧sE.e k<0):=by
  obtain⟨h1,h2,h3⟩:=d_range B hk ho;obtain⟨E,hE⟩:∃ E:Nat,s.d k=(E:Int):=⟨(s.d k).toNat,by omega⟩;rw [hE,Int.toNat_natCast] at h3;obtain⟨sE,hsE⟩:=shp_ex B (k:=E) (by omega);obtain⟨r,x,s1,hl,hs1,hl1,hdx,hox,hno⟩:=end_at B (by omega) h3 hsE;have hkE:k∈sE.l:=(mem_stack B (by omega) hsE k).2 ⟨by omega,ho,by omega⟩;have hkx:k=x:=by
    rw [hl] at hkE;rcases List.mem_append.1 hkE with q | q
    · have q2 := (mem_stack B (k := E + 1) (by omega) hs1 k).1 (by rw [hl1]; exact q)
      omega
    · simpa using q
  subst hkx;obtain⟨i,hi⟩:∃ i,E=k+1+i:=⟨E-(k+1),by omega⟩;obtain⟨r2,hr2⟩:=pre_stack hsk ho i sE (by rw [← hi];exact hsE) hkE;have hr:r2=[]:=by
    cases hq:r2.getLast? with
    | none=>simpa using hq
    | some z =>
      have e1:=last_split hq;rw [hl,e1] at hr2;have e2:z=k:=by
        have q:=congrArg List.getLast? hr2;rw [← List.append_assoc,last_app,last_app] at q;exact(Option.some.inj q).symm
      have I:=(inv_of E sE hsE).inc;rw [hl,hr2,← List.append_assoc] at I;have:=(List.pairwise_append.1 I).2.2 k (by simp) z (by simp);omega
  rw [hr,List.append_nil] at hr2;have hrr:r=sk.l:=by
    rw [hl] at hr2;exact List.append_cancel_right hr2
  exact⟨E,sE,s1,hE,by omega,by omega,h3,hsE,by rw [hl,hrr],hs1,by rw [hl1,hrr],hox,hno⟩
theorem else_of (B:Bal c n s) {k a:Nat} (hk:k<n) (ho:opn (c k)=true) {sk:Sh} (hsk:shp c k=some sk) (ha:s.e k=(a:Int)) :
    k<a∧a<n∧c a=34∧∃ sa s1,shp c a=some sa∧sa.l=sk.l++[k]∧shp c (a+1)=some s1∧s1.l=sk.l++[k]∧s.o a=(k:Int)∧(c k=29∨c k=33):=by
  rcases (inv_of n s B.hs).e k hk with q | ⟨q1,q2,q3⟩
  · omega
  · rw [ha] at q1 q2 q3
    rw [Int.toNat_natCast] at q3;obtain⟨sa,hsa⟩:=shp_ex B (k:=a) (by omega);obtain⟨r,x,hl,hex,hox,h2⟩:=else_at B (by omega) q3 hsa;obtain⟨s1,hs1⟩:=shp_ex B (k:=a+1) (by omega);obtain⟨sa',e1,hst⟩:=shp_succ hs1;rw [hsa] at e1;cases e1;have hx:x<a:=(inv_of a sa hsa).lt x (by rw [hl];simp);have hkx:k=x:=by
      apply Classical.byContradiction;intro hne;rcases stp_inv hst with ⟨h1,-⟩ | ⟨-,h1,-⟩ | ⟨-,r',x',hl',-,-,e⟩ | ⟨h1,-⟩
      · rw [opn_iff] at h1;omega
      · exact h1 q3
      · have hxx:x'=x:=by
          rw [hl] at hl';have q:=congrArg List.getLast? hl';rw [last_app,last_app] at q;exact(Option.some.inj q).symm
        subst hxx;have hek:s1.e k=sa.e k:=by
          rw [e];show Ec.upI (Ec.upI sa.e a (-1)) x' (a:Int) k=_;rw [Ec.upI_ne hne,Ec.upI_ne (by omega)]
        have hlt:sa.e k<a:=by
          rcases (inv_of a sa hsa).e k (by omega) with q | ⟨-,q,-⟩ <;> omega
        rcases (frz_at hs1 B.hs (by omega)).e k (by omega) with q | ⟨-,q⟩ <;> omega
      · omega
    subst hkx;have hl1:s1.l=sa.l:=by
      rcases stp_inv hst with ⟨h1,-⟩ | ⟨-,h1,-⟩ | ⟨-,r',x',hl',-,-,e⟩ | ⟨h1,-⟩
      · rw [opn_iff] at h1;omega
      · exact absurd q3 h1
      · rw [e]
      · omega
    have hka:k∈sa.l:=(by rw [hl];simp);obtain⟨i,hi⟩:∃ i,a=k+1+i:=⟨a-(k+1),by omega⟩;obtain⟨r2,hr2⟩:=pre_stack hsk ho i sa (by rw [← hi];exact hsa) hka;have hr:r2=[]:=by
      cases hq:r2.getLast? with
      | none=>simpa using hq
      | some z =>
        have e1:=last_split hq;rw [hl,e1] at hr2;have e2:z=k:=by
          have q:=congrArg List.getLast? hr2;rw [← List.append_assoc,last_app,last_app] at q;exact(Option.some.inj q).symm
        have I:=(inv_of a sa hsa).inc;rw [hl,hr2,← List.append_assoc] at I;have:=(List.pairwise_append.1 I).2.2 k (by simp) z (by simp);omega
    rw [hr,List.append_nil] at hr2;exact⟨by omega,by omega,q3,sa,s1,hsa,hr2,hs1,by rw [hl1,hr2],hox,h2⟩
structure Seg (c:Nat→Int) (k j:Nat) (b:List Nat):Prop where
  st:∃ sk,shp c k=some sk∧sk.l=b
  fn:∃ sj,shp c j=some sj∧sj.l=b
  md:∀ i si,k≤i→i<j→shp c i=some si→(c i=34→si.l≠b)∧(c i=35→si.l≠b)
theorem tree_of (B:Bal c n s):∀ (m k j:Nat) (b:List Nat),j-k≤m→k≤j→j≤n→Seg c k j b→∃ R,Fl.Is ⟨c,s.e,s.d,s.o⟩ R k j:=by
  intro m;induction m with
  | zero=>intro k j b h1 h2 h3 _;exact⟨.nil,by show k=j;omega⟩
  | succ m ih =>
    intro k j b h1 h2 h3 G;by_cases hkj:k=j
    · exact⟨.nil,hkj⟩
    obtain⟨sk,hsk,hb⟩:=G.st;obtain⟨sj,hsj,hbj⟩:=G.fn;have hkn:k<n:=(by omega);obtain⟨s1,hs1⟩:=shp_ex B (k:=k+1) (by omega);obtain⟨sk',e1,hst⟩:=shp_succ hs1;rw [hsk] at e1;cases e1;by_cases ho:opn (c k)=true
    ·
      obtain⟨E,sE,sE1,hdE,hkE,hEn,hcE,hsE,hlE,hsE1,hlE1,hoE,htry⟩:=end_of B hkn ho hsk;have hknb:k ∉ sj.l:=fun q=>by
        rw [hbj,← hb] at q;have:=(inv_of k sk hsk).lt k q;omega
      have hEj:E<j:=by
        apply Classical.byContradiction;intro q;exact hknb ((mem_stack B h3 hsj k).2 ⟨by omega,ho,by omega⟩)
      have mid:∀ i si,k+1≤i→i<E→shp c i=some si→(c i=34→si.l=sk.l++[k]→s.e k=(i:Int))∧(c i=35→si.l≠sk.l++[k]):=fun i si g1 g2 g3=>by
        constructor
        · intro g4 g5
          obtain⟨r,x,q1,q2,-⟩:=else_at B (by omega) g4 g3;have:x=k:=by
            rw [g5] at q1;have q:=congrArg List.getLast? q1;rw [last_app,last_app] at q;exact(Option.some.inj q).symm
          rw [← this];exact q2
        · intro g4 g5
          obtain⟨r,x,s9,q1,-,-,q2,-⟩:=end_at B (by omega) g4 g3;have:x=k:=by
            rw [g5] at q1;have q:=congrArg List.getLast? q1;rw [last_app,last_app] at q;exact(Option.some.inj q).symm
          rw [this] at q2;omega
      obtain⟨R2,hR2⟩:=ih (E+1) j b (by omega) (by omega) h3 ⟨⟨sE1,hsE1,by rw [hlE1,hb]⟩,⟨sj,hsj,hbj⟩,fun i si g1 g2 g3=>G.md i si (by omega) g2 g3⟩;have hos1:s1.l=sk.l++[k]:=by
        have:=shp_open hsk ho;rw [hs1] at this;cases this;rfl
      have hop:=opn_iff.1 ho;rcases (inv_of n s B.hs).e k hkn with he | ⟨he1,he2,he3⟩
      ·
        obtain⟨Rb,hRb⟩:=ih (k+1) E (sk.l++[k]) (by omega) (by omega) (by omega) ⟨⟨s1,hs1,hos1⟩,⟨sE,hsE,hlE⟩,fun i si g1 g2 g3=>⟨fun g4 g5=>by
          have:=(mid i si g1 g2 g3).1 g4 g5;omega,(mid i si g1 g2 g3).2⟩⟩
        have h33:c k≠33:=fun q=>htry ⟨q,by
          rcases (frz_at hsE B.hs (by omega)).e k (by omega) with q2 | ⟨q2,-⟩
          · rw [← q2,he];decide
          · exact q2⟩
        exact⟨.plain k E Rb R2,rfl,⟨hop.1,by show c k≤32;have:=hop.2;omega⟩,he,hdE,hoE,hcE,hRb,hR2⟩
      · obtain ⟨a, ha⟩ : ∃ a : Nat, s.e k = (a : Int) := ⟨(s.e k).toNat, by omega⟩
        obtain⟨q1,q2,q3,sa,sa1,q4,q5,q6,q7,q8,q9⟩:=else_of B hkn ho hsk ha;have hkst:k∈sa.l:=(by rw [q5];simp);have haE:a<E:=by
          have:=(mem_stack B (by omega) q4 k).1 hkst;have h5:a≠E:=fun e=>by rw [e] at q3;omega
          omega
        obtain⟨Ra,hRa⟩:=ih (k+1) a (sk.l++[k]) (by omega) (by omega) (by omega) ⟨⟨s1,hs1,hos1⟩,⟨sa,q4,q5⟩,fun i si g1 g2 g3=>⟨fun g4 g5=>by
          have:=(mid i si g1 (by omega) g3).1 g4 g5;omega,(mid i si g1 (by omega) g3).2⟩⟩
        obtain⟨Rb,hRb⟩:=ih (a+1) E (sk.l++[k]) (by omega) (by omega) (by omega) ⟨⟨sa1,q6,q7⟩,⟨sE,hsE,hlE⟩,fun i si g1 g2 g3=>⟨fun g4 g5=>by
          have:=(mid i si (by omega) g2 g3).1 g4 g5;omega,(mid i si (by omega) g2 g3).2⟩⟩
        exact⟨.alt k a E Ra Rb R2,rfl,q9,ha,hdE,q8,hoE,q3,hcE,hRa,hRb,hR2⟩
    · have ho' : opn (c k) = false := by simpa using ho
      have m9:=G.md k sk (Nat.le_refl _) (by omega) hsk;rcases stp_inv hst with ⟨h5,-⟩ | ⟨-,h4,h5,e⟩ | ⟨h5,r,x,hl,-⟩ | ⟨h5,r,x,hl,-⟩
      · exact absurd h5 ho
      · obtain ⟨R, hR⟩ := ih (k + 1) j b (by omega) (by omega) h3 ⟨⟨s1, hs1, by rw [e]; exact hb⟩, ⟨sj, hsj, hbj⟩, fun i si g1 g2 g3 => G.md i si (by omega) g2 g3⟩
        have h9:=opn_no.1 ho';exact⟨.one k R,rfl,fun q=>by have q1:=q.1;have q2:=q.2;simp only [] at q1 q2;omega,hR⟩
      · exact absurd hb (m9.1 h5)
      · exact absurd hb (m9.2 h5)
theorem is_tree {A B:Nat→Int} (h:chk c A B false n=0):∃ R,Fl.Is (cdOf c n) R 0 n:=by
  have Bb:=chk_bal h;refine tree_of Bb n 0 n [] (by omega) (Nat.zero_le _) (Nat.le_refl _) ⟨⟨_,rfl,rfl⟩,⟨_,Bb.hs,Bb.hl⟩,fun i si g1 g2 g3=>⟨fun g4 g5=>?_,fun g4 g5=>?_⟩⟩
  · obtain ⟨r, x, hl, -⟩ := else_at Bb g2 g4 g3
    rw [g5] at hl;simp at hl
  · obtain ⟨r, x, s9, hl, -⟩ := end_at Bb g2 g4 g3
    rw [g5] at hl;simp at hl
end
end Ca
end Go.Proofs.YtmjnakhpekbenaaGreat
namespace Go.Proofs.YtmjnakhpekbenaaGreat
open Fw
namespace Ca
section
variable (C : Fl.Cd) (A p : Nat → Int)
def mxI (x y:Int):Int:=if y > x then y else x
def cst:Fl.Tr→Int
  | .nil=>0
  | .one i r=>p i+cst r
  | .plain i E b r=>p i+(if C.c i=30 then A i*(cst b+p E) else cst b+p E)+cst r
  | .alt i a E b1 b2 r=>p i+(if C.c i=29 then mxI (cst b1+p a) (cst b2+p E) else cst b1+mxI (p a) (cst b2+p E))+cst r
def dep:Fl.Tr→Nat
  | .nil=>0
  | .one i r=>dep r
  | .plain i E b r=>max (dep b+1) (dep r)
  | .alt i a E b1 b2 r=>max (max (dep b1) (dep b2)+1) (dep r)
def Sm:Fl.Tr→Prop
  | .nil=>True
  | .one i r=>Sm r
  | .plain i E b r=>cst C A p b+p E≤1000000000000000∧Sm b∧Sm r
  | .alt i a E b1 b2 r=>cst C A p b1+p a≤1000000000000000∧cst C A p b2+p E≤1000000000000000∧Sm b1∧Sm b2∧Sm r
end
theorem le_mxI {x y:Int}:x≤mxI x y∧y≤mxI x y:=by unfold mxI;split <;> omega
def pw (d:Nat):Int:=100*50 ^ d
theorem pw_succ (d:Nat):pw (d+1)=50*pw d:=by unfold pw;rw [Int.pow_succ];omega
theorem pw_pos:∀ d,100≤pw d
  | 0=>by decide
  | d+1=>by rw [pw_succ];have:=pw_pos d;omega
theorem pw_mono {d e:Nat} (h:d≤e):pw d≤pw e:=by
  induction h with
  | refl=>exact Int.le_refl _
  | step _ ih=>rw [pw_succ];have:=pw_pos d;omega
theorem pw_mul {d e:Nat} (h:d≤e) {x:Int} (hx:0≤x):pw d*x≤pw e*x:=Int.mul_le_mul_of_nonneg_right (pw_mono h) hx
section
variable {C : Fl.Cd} {A p : Nat → Int} {n : Nat} (hp : ∀ i, 0 ≤ p i ∧ p i ≤ 100) (hA : ∀ i, i < n → C.c i = 30 → 0 ≤ A i ∧ A i ≤ 50)
include hp hA
theorem cst_bd:∀ (R:Fl.Tr) (k j:Nat),Fl.Is C R k j→j≤n→0≤cst C A p R∧cst C A p R≤pw (dep R)*((j:Int)-k)
  | .nil,k,j,h,hj=>by
    have:k=j:=h;subst this;simp [cst]
  | .one i r,k,j,h,hj=>by
    obtain⟨h1,h2⟩:=cst_bd r (k+1) j h.2.2 hj;have h3:=hp i;have h4:=pw_pos (dep r);have e:pw (dep r)*((j:Int)-k)=pw (dep r)*((j:Int)-(k+1:Nat))+pw (dep r):=by
      rw [show (j:Int)-k=((j:Int)-(k+1:Nat))+1 by omega,Int.mul_add,Int.mul_one]
    show 0≤p i+cst C A p r∧p i+cst C A p r≤pw (dep r)*_;omega
  | .plain i E b r,k,j,h,hj=>by
    obtain⟨q1,q2,q3,q4,q5,q6,q7,q8⟩:=h;subst q1;have l1:=q8.le;have l2:=q7.le;obtain⟨h1,h2⟩:=cst_bd b (i+1) E q7 (by omega);obtain⟨h3,h4⟩:=cst_bd r (E+1) j q8 hj;have h5:=hp i;have h6:=hp E;have d1:dep b+1≤dep (.plain i E b r):=Nat.le_max_left _ _;have d2:dep r≤dep (.plain i E b r):=Nat.le_max_right _ _;generalize hD:dep (.plain i E b r)=D at d1 d2;have h7:=pw_pos D;have h8:=pw_pos (dep b);have e1:pw (dep b)*((E:Int)-i)=pw (dep b)*((E:Int)-(i+1:Nat))+pw (dep b):=by
      rw [show (E:Int)-i=((E:Int)-(i+1:Nat))+1 by omega,Int.mul_add,Int.mul_one]
    have m1:50*(pw (dep b)*((E:Int)-i))≤pw D*((E:Int)-i):=by
      have:=pw_mul d1 (x:=(E:Int)-i) (by omega);rw [pw_succ,Int.mul_assoc] at this;exact this
    have m2:=pw_mul d2 (x:=(j:Int)-(E+1:Nat)) (by omega);have e2:pw D*((j:Int)-i)=pw D*((E:Int)-i)+pw D*((j:Int)-(E+1:Nat))+pw D:=by
      rw [show (j:Int)-i=((E:Int)-i)+((j:Int)-(E+1:Nat))+1 by omega,Int.mul_add,Int.mul_add,Int.mul_one]
    have hv:0≤(if C.c i=30 then A i*(cst C A p b+p E) else cst C A p b+p E)∧(if C.c i=30 then A i*(cst C A p b+p E) else cst C A p b+p E)≤50*(pw (dep b)*((E:Int)-i)):=by
      split
      · rename_i h30
        have ha:=hA i (by omega) h30;exact⟨Int.mul_nonneg ha.1 (by omega),Int.le_trans (Int.mul_le_mul_of_nonneg_right ha.2 (by omega)) (Int.mul_le_mul_of_nonneg_left (by omega) (by decide))⟩
      · omega
    show 0≤p i+(if C.c i=30 then A i*(cst C A p b+p E) else cst C A p b+p E)+cst C A p r∧p i+(if C.c i=30 then A i*(cst C A p b+p E) else cst C A p b+p E)+cst C A p r≤_;generalize (if C.c i=30 then A i*(cst C A p b+p E) else cst C A p b+p E)=v at hv;omega
  | .alt i a E b1 b2 r,k,j,h,hj=>by
    obtain⟨q1,q2,q3,q4,q5,q6,q7,q8,q9,q10,q11⟩:=h;subst q1;have l1:=q9.le;have l2:=q10.le;have l3:=q11.le;obtain⟨h1,h2⟩:=cst_bd b1 (i+1) a q9 (by omega);obtain⟨h3,h4⟩:=cst_bd b2 (a+1) E q10 (by omega);obtain⟨h5,h6⟩:=cst_bd r (E+1) j q11 hj;have h7:=hp i;have h8:=hp a;have h9:=hp E;have d1:dep b1≤dep (.alt i a E b1 b2 r):=(by show dep b1≤max (max (dep b1) (dep b2)+1) (dep r);omega);have d2:dep b2≤dep (.alt i a E b1 b2 r):=(by show dep b2≤max (max (dep b1) (dep b2)+1) (dep r);omega);have d3:dep r≤dep (.alt i a E b1 b2 r):=Nat.le_max_right _ _;generalize hD:dep (.alt i a E b1 b2 r)=D at d1 d2 d3;have h10:=pw_pos D;have m1:=pw_mul d1 (x:=(a:Int)-(i+1:Nat)) (by omega);have m2:=pw_mul d2 (x:=(E:Int)-(a+1:Nat)) (by omega);have m3:=pw_mul d3 (x:=(j:Int)-(E+1:Nat)) (by omega);have e2:pw D*((j:Int)-i)=pw D*((a:Int)-(i+1:Nat))+pw D*((E:Int)-(a+1:Nat))+pw D*((j:Int)-(E+1:Nat))+pw D*3:=by
      rw [show (j:Int)-i=((a:Int)-(i+1:Nat))+((E:Int)-(a+1:Nat))+((j:Int)-(E+1:Nat))+3 by omega,Int.mul_add,Int.mul_add,Int.mul_add]
    have hv:0≤(if C.c i=29 then mxI (cst C A p b1+p a) (cst C A p b2+p E) else cst C A p b1+mxI (p a) (cst C A p b2+p E))∧(if C.c i=29 then mxI (cst C A p b1+p a) (cst C A p b2+p E) else cst C A p b1+mxI (p a) (cst C A p b2+p E))≤cst C A p b1+p a+(cst C A p b2+p E):=by
      unfold mxI;split <;> split <;> omega
    show 0≤p i+(if C.c i=29 then mxI (cst C A p b1+p a) (cst C A p b2+p E) else cst C A p b1+mxI (p a) (cst C A p b2+p E))+cst C A p r∧p i+(if C.c i=29 then mxI (cst C A p b1+p a) (cst C A p b2+p E) else cst C A p b1+mxI (p a) (cst C A p b2+p E))+cst C A p r≤_;generalize (if C.c i=29 then mxI (cst C A p b1+p a) (cst C A p b2+p E) else cst C A p b1+mxI (p a) (cst C A p b2+p E))=v at hv;omega
theorem cst_K {R:Fl.Tr} {k j:Nat} (h:Fl.Is C R k j) (hj:j≤n) (hn:n≤120) (hd:dep R≤6):0≤cst C A p R∧cst C A p R≤187500000000000:=by
  obtain⟨h1,h2⟩:=cst_bd hp hA R k j h hj;refine⟨h1,Int.le_trans h2 ?_⟩;have l:=h.le;have h3:=pw_mul hd (x:=(j:Int)-k) (by omega);have h4:pw 6=1562500000000:=(by decide);rw [h4] at h3;omega
theorem sm_of:∀ (R:Fl.Tr) (k j:Nat),Fl.Is C R k j→j≤n→n≤120→dep R≤6→Sm C A p R
  | .nil,k,j,h,hj,hn,hd=>trivial
  | .one i r,k,j,h,hj,hn,hd=>sm_of r (k+1) j h.2.2 hj hn hd
  | .plain i E b r,k,j,h,hj,hn,hd=>by
    obtain⟨q1,q2,q3,q4,q5,q6,q7,q8⟩:=h;subst q1;have l1:=q8.le;have l2:=q7.le;have d1:dep b+1≤dep (.plain i E b r):=Nat.le_max_left _ _;have d2:dep r≤dep (.plain i E b r):=Nat.le_max_right _ _;have h1:=cst_K hp hA q7 (by omega) hn (by omega);have h2:=hp E;exact⟨by omega,sm_of b (i+1) E q7 (by omega) hn (by omega),sm_of r (E+1) j q8 hj hn (by omega)⟩
  | .alt i a E b1 b2 r,k,j,h,hj,hn,hd=>by
    obtain⟨q1,q2,q3,q4,q5,q6,q7,q8,q9,q10,q11⟩:=h;subst q1;have l1:=q9.le;have l2:=q10.le;have l3:=q11.le;have d1:dep b1≤dep (.alt i a E b1 b2 r):=(by show dep b1≤max (max (dep b1) (dep b2)+1) (dep r);omega);have d2:dep b2≤dep (.alt i a E b1 b2 r):=(by show dep b2≤max (max (dep b1) (dep b2)+1) (dep r);omega);have d3:dep r≤dep (.alt i a E b1 b2 r):=Nat.le_max_right _ _;have h1:=cst_K hp hA q9 (by omega) hn (by omega);have h2:=cst_K hp hA q10 (by omega) hn (by omega);have h3:=hp a;have h4:=hp E;exact⟨by omega,by omega,sm_of b1 (i+1) a q9 (by omega) hn (by omega),sm_of b2 (a+1) E q10 (by omega) hn (by omega),sm_of r (E+1) j q11 hj hn (by omega)⟩
end
section
open Ec
variable {c : Nat → Int} {n : Nat} {s : Sh}
theorem lenB_le (B:Bal c n s) {k:Nat} (hk:k≤n) {sk:Sh} (hsk:shp c k=some sk):sk.l.length≤6:=by
  have h1:=(inv_of k sk hsk).le;have h2:=(frz_at hsk B.hs hk).m;have h3:=B.hm;omega
theorem dep_le (B:Bal c n s):∀ (R:Fl.Tr) (k j:Nat),Fl.Is ⟨c,s.e,s.d,s.o⟩ R k j→j≤n→∀ sk,shp c k=some sk→dep R+sk.l.length≤6
  | .nil,k,j,h,hj,sk,hsk=>by
    have:k=j:=h;have:=lenB_le B (by omega) hsk;simpa [dep] using this
  | .one i r,k,j,h,hj,sk,hsk=>by
    obtain⟨h1,h2,h3⟩:=h;have l:=h3.le;obtain⟨s1,hs1⟩:=shp_ex B (k:=k+1) (by omega);obtain⟨sk',e1,hst⟩:=shp_succ hs1;rw [hsk] at e1;cases e1;have:=dep_le B r (k+1) j h3 hj s1 hs1;have e:s1.l=sk.l:=by
      rcases stp_inv hst with ⟨q,-⟩ | ⟨-,-,-,q⟩ | ⟨q,-⟩ | ⟨q,-⟩
      · have:=opn_iff.1 q;exact absurd ⟨this.1,by show c k≤35;omega⟩ h2
      · rw [q];rfl
      · exact absurd ⟨by show 29≤c k;omega,by show c k≤35;omega⟩ h2
      · exact absurd ⟨by show 29≤c k;omega,by show c k≤35;omega⟩ h2
    rw [e] at this;exact this
  | .plain i E b r,k,j,h,hj,sk,hsk=>by
    obtain⟨q1,q2,q3,q4,q5,q6,q7,q8⟩:=h;subst q1;have l1:=q8.le;have l2:=q7.le;have ho:opn (c i)=true:=opn_iff.2 ⟨q2.1,by have:c i≤32:=q2.2;omega⟩;obtain⟨s1,hs1,e1⟩:=opens B (by omega) ho hsk;obtain⟨E',sE,sE1,hd,-,-,-,-,-,hs2,e2,-,-⟩:=end_of B (by omega) ho hsk;have hE:E'=E:=(by have:s.d i=(E:Int):=q4;omega);subst hE;have h1:=dep_le B b (i+1) E' q7 (by omega) s1 hs1;have h2:=dep_le B r (E'+1) j q8 hj sE1 hs2;rw [e1,List.length_append,List.length_singleton] at h1;rw [e2] at h2;show max (dep b+1) (dep r)+_≤6;omega
  | .alt i a E b1 b2 r,k,j,h,hj,sk,hsk=>by
    obtain⟨q1,q2,q3,q4,q5,q6,q7,q8,q9,q10,q11⟩:=h;subst q1;have l1:=q9.le;have l2:=q10.le;have l3:=q11.le;have ho:opn (c i)=true:=opn_iff.2 (by rcases q2 with q | q <;> (have q:c i=_:=q) <;> omega);obtain⟨s1,hs1,e1⟩:=opens B (by omega) ho hsk;obtain⟨E',sE,sE1,hd,-,-,-,-,-,hs2,e2,-,-⟩:=end_of B (by omega) ho hsk;have hE:E'=E:=(by have:s.d i=(E:Int):=q4;omega);subst hE;obtain⟨-,-,-,sa,sa1,-,-,hs3,e3,-,-⟩:=else_of B (by omega) ho hsk (a:=a) q3;have h1:=dep_le B b1 (i+1) a q9 (by omega) s1 hs1;have h2:=dep_le B r (E'+1) j q11 hj sE1 hs2;have h3:=dep_le B b2 (a+1) E' q10 (by omega) sa1 hs3;rw [e1,List.length_append,List.length_singleton] at h1;rw [e3,List.length_append,List.length_singleton] at h3;rw [e2] at h2;show max (max (dep b1) (dep b2)+1) (dep r)+_≤6;omega
theorem dep_chk {A B:Nat→Int} (h:chk c A B false n=0) {R:Fl.Tr} (hR:Fl.Is (cdOf c n) R 0 n):dep R≤6:=by
  have:=dep_le (chk_bal h) R 0 n hR (Nat.le_refl _) _ rfl;simpa using this
end
end Ca
end Go.Proofs.YtmjnakhpekbenaaGreat
namespace Go.Proofs.YtmjnakhpekbenaaGreat
open Fw
namespace Ca
def upR (r:Nat→Int) (i:Nat) (x:Int):Nat→Int:=fun j=>if j=i then x else r j
theorem upR_same {r:Nat→Int} {i:Nat} {x:Int}:upR r i x i=x:=if_pos rfl
theorem upR_ne {r:Nat→Int} {i j:Nat} {x:Int} (h:j≠i):upR r i x j=r j:=if_neg h
def Stp (C:Fl.Cd) (A:Nat→Int) (v:Nat) (r:Nat→Int) (v':Nat) (r':Nat→Int):Prop :=
  (C.c v=29∧r'=r∧(v'=v+1∨(0≤C.e v∧(v':Int)=C.e v+1)∨(C.e v<0∧(v':Int)=C.d v))) ∨
  (C.c v=34∧r'=r∧(v':Int)=C.d (C.o v).toNat+1) ∨
  (C.c v=30∧((r'=r∧(v':Int)=C.d v+1)∨∃ k,1≤k∧k≤A v∧r'=upR r v k∧v'=v+1)) ∨
  (C.c v=35∧C.c (C.o v).toNat=30∧r'=upR r (C.o v).toNat (r (C.o v).toNat-1)∧((1<r (C.o v).toNat∧v'=(C.o v).toNat+1)∨(r (C.o v).toNat≤1∧v'=v+1))) ∨
  (C.c v=35∧C.c (C.o v).toNat≠30∧r'=r∧v'=v+1) ∨
  (C.c v≠29∧C.c v≠34∧C.c v≠30∧C.c v≠35∧r'=r∧v'=v+1)
def Trp (C:Fl.Cd) (v v':Nat):Prop:=∃ t,t<v∧C.c t=33∧(v:Int)<C.e t∧(∀ u,t<u→u<v→C.c u=33→¬ (v:Int)<C.e u)∧(v':Int)=C.e t+1
section
variable (C : Fl.Cd) (A p : Nat → Int)
def rem:Fl.Tr→Nat→(Nat→Int)→Int
  | .nil,v,r=>0
  | .one i R,v,r=>if v=i then p i+cst C A p R else rem R v r
  | .plain i E b R,v,r=>if v=i then cst C A p (.plain i E b R) else if v≤E then rem b v r+p E+(if C.c i=30 then (r i-1)*(cst C A p b+p E) else 0)+cst C A p R else rem R v r
  | .alt i a E b1 b2 R,v,r=>if v=i then cst C A p (.alt i a E b1 b2 R) else if v≤a then rem b1 v r+(if C.c i=29 then p a else mxI (p a) (cst C A p b2+p E))+cst C A p R else if v≤E then rem b2 v r+p E+cst C A p R else rem R v r
def RI:Fl.Tr→Nat→(Nat→Int)→Prop
  | .nil,v,r=>True
  | .one i R,v,r=>v=i∨RI R v r
  | .plain i E b R,v,r=>v=i∨(v≤E∧(C.c i=30→1≤r i)∧RI b v r)∨(E<v∧RI R v r)
  | .alt i a E b1 b2 R,v,r=>v=i∨(v≤a∧RI b1 v r)∨(a<v∧v≤E∧RI b2 v r)∨(E<v∧RI R v r)
end
section
variable {C : Fl.Cd} {A p : Nat → Int}
theorem rem_end:∀ {R:Fl.Tr} {k j:Nat},Fl.Is C R k j→∀ r,rem C A p R j r=0
  | .nil,k,j,h,r=>rfl
  | .one i R,k,j,h,r=>by
    have l:=h.2.2.le;have e:=h.1;show (if j=i then _ else _)=_;rw [if_neg (by omega)];exact rem_end h.2.2 r
  | .plain i E b R,k,j,h,r=>by
    obtain⟨q1,q2,q3,q4,q5,q6,q7,q8⟩:=h;have l1:=q8.le;have l2:=q7.le;show (if j=i then _ else if j≤E then _ else _)=_;rw [if_neg (by omega),if_neg (by omega)];exact rem_end q8 r
  | .alt i a E b1 b2 R,k,j,h,r=>by
    obtain⟨q1,q2,q3,q4,q5,q6,q7,q8,q9,q10,q11⟩:=h;have l1:=q9.le;have l2:=q10.le;have l3:=q11.le;show (if j=i then _ else if j≤a then _ else if j≤E then _ else _)=_;rw [if_neg (by omega),if_neg (by omega),if_neg (by omega)];exact rem_end q11 r
theorem rem_start:∀ {R:Fl.Tr} {k j:Nat},Fl.Is C R k j→∀ r,rem C A p R k r=cst C A p R
  | .nil,k,j,h,r=>rfl
  | .one i R,k,j,h,r=>if_pos h.1.symm
  | .plain i E b R,k,j,h,r=>if_pos h.1.symm
  | .alt i a E b1 b2 R,k,j,h,r=>if_pos h.1.symm
theorem RI_end:∀ {R:Fl.Tr} {k j:Nat},Fl.Is C R k j→∀ r,RI C R j r
  | .nil,k,j,h,r=>trivial
  | .one i R,k,j,h,r=>.inr (RI_end h.2.2 r)
  | .plain i E b R,k,j,h,r=>by
    obtain⟨q1,q2,q3,q4,q5,q6,q7,q8⟩:=h;exact .inr (.inr ⟨by have:=q8.le;omega,RI_end q8 r⟩)
  | .alt i a E b1 b2 R,k,j,h,r=>by
    obtain⟨q1,q2,q3,q4,q5,q6,q7,q8,q9,q10,q11⟩:=h;exact .inr (.inr (.inr ⟨by have:=q11.le;omega,RI_end q11 r⟩))
theorem RI_start:∀ {R:Fl.Tr} {k j:Nat},Fl.Is C R k j→∀ r,RI C R k r
  | .nil,k,j,h,r=>trivial
  | .one i R,k,j,h,r=>.inl h.1.symm
  | .plain i E b R,k,j,h,r=>.inl h.1.symm
  | .alt i a E b1 b2 R,k,j,h,r=>.inl h.1.symm
theorem try_in:∀ {R:Fl.Tr} {k j:Nat},Fl.Is C R k j→∀ t,k≤t→t<j→C.c t=33→C.e t<(j:Int)
  | .nil,k,j,h,t,h1,h2,h3=>by have:k=j:=h;omega
  | .one i R,k,j,h,t,h1,h2,h3=>by
    obtain⟨q1,q2,q3⟩:=h;by_cases e:t=i
    · subst e;exact absurd ⟨by omega,by omega⟩ (q1 ▸ q2)
    · exact try_in q3 t (by omega) h2 h3
  | .plain i E b R,k,j,h,t,h1,h2,h3=>by
    obtain⟨q1,q2,q3,q4,q5,q6,q7,q8⟩:=h;subst q1;have l1:=q8.le;by_cases e:t=i
    · subst e;omega
    · by_cases e2 : t < E
      · have:=try_in q7 t (by omega) e2 h3;omega
      · by_cases e3 : t = E
        · subst e3;omega
        · exact try_in q8 t (by omega) h2 h3
  | .alt i a E b1 b2 R,k,j,h,t,h1,h2,h3=>by
    obtain⟨q1,q2,q3,q4,q5,q6,q7,q8,q9,q10,q11⟩:=h;subst q1;have l1:=q9.le;have l2:=q10.le;have l3:=q11.le;by_cases e:t=i
    · subst e;omega
    · by_cases e2 : t < a
      · have:=try_in q9 t (by omega) e2 h3;omega
      · by_cases e3 : t = a
        · subst e3;omega
        · by_cases e4 : t < E
          · have:=try_in q10 t (by omega) e4 h3;omega
          · by_cases e5 : t = E
            · subst e5;omega
            · exact try_in q11 t (by omega) h2 h3
variable {n : Nat} (hp : ∀ i, 0 ≤ p i ∧ p i ≤ 100) (hA : ∀ i, i < n → C.c i = 30 → 0 ≤ A i ∧ A i ≤ 50)
theorem mul_split (x y:Int):(x-1)*y=x*y-y:=by rw [Int.sub_mul,Int.one_mul]
include hp hA
theorem rem_ge:∀ (R:Fl.Tr) (k j:Nat),Fl.Is C R k j→j≤n→∀ v r,k≤v→v<j→RI C R v r→p v≤rem C A p R v r
  | .nil,k,j,h,hj,v,r,h1,h2,hR=>by have:k=j:=h;omega
  | .one i R,k,j,h,hj,v,r,h1,h2,hR=>by
    obtain⟨q1,q2,q3⟩:=h;show _≤(if v=i then _ else _);have h3:=(cst_bd hp hA R _ _ q3 hj).1;by_cases e:v=i
    · rw [if_pos e,e];omega
    · rw [if_neg e];exact rem_ge R _ _ q3 hj v r (by omega) h2 (hR.resolve_left e)
  | .plain i E b R,k,j,h,hj,v,r,h1,h2,hR=>by
    have hw:=h;obtain⟨q1,q2,q3,q4,q5,q6,q7,q8⟩:=h;have l1:=q8.le;have l2:=q7.le;have h3:=(cst_bd hp hA R _ _ q8 hj).1;have h4:=(cst_bd hp hA b _ _ q7 (by omega)).1;have h5:=hp E;show _≤(if v=i then _ else if v≤E then _ else _);by_cases e:v=i
    · rw [if_pos e, e]
      show p i≤p i+(if C.c i=30 then A i*(cst C A p b+p E) else cst C A p b+p E)+cst C A p R;split
      · have:=Int.mul_nonneg (hA i (by omega) (by assumption)).1 (show 0≤cst C A p b+p E by omega);omega
      · omega
    · rw [if_neg e]
      rcases hR with hR | ⟨e2,hR,hR2⟩ | ⟨e2,hR⟩
      · exact absurd hR e
      · rw [if_pos e2]
        have h6:0≤(if C.c i=30 then (r i-1)*(cst C A p b+p E) else 0):=by
          split
          · exact Int.mul_nonneg (by have:=hR (by assumption);omega) (by omega)
          · omega
        by_cases e3:v=E
        · have := rem_end (p := p) (A := A) q7 r
          rw [e3,this];omega
        · have:=rem_ge b _ _ q7 (by omega) v r (by omega) (by omega) hR2;omega
      · rw [if_neg (by omega)];exact rem_ge R _ _ q8 hj v r (by omega) h2 hR
  | .alt i a E b1 b2 R,k,j,h,hj,v,r,h1,h2,hR=>by
    obtain⟨q1,q2,q3,q4,q5,q6,q7,q8,q9,q10,q11⟩:=h;have l1:=q9.le;have l2:=q10.le;have l3:=q11.le;have h3:=(cst_bd hp hA R _ _ q11 hj).1;have h4:=(cst_bd hp hA b1 _ _ q9 (by omega)).1;have h5:=(cst_bd hp hA b2 _ _ q10 (by omega)).1;have h6:=hp E;have h7:=hp a;have h8:=le_mxI (x:=cst C A p b1+p a) (y:=cst C A p b2+p E);have h9:=le_mxI (x:=p a) (y:=cst C A p b2+p E);show _≤(if v=i then _ else if v≤a then _ else if v≤E then _ else _);by_cases e:v=i
    · rw [if_pos e, e]
      show p i≤p i+(if C.c i=29 then mxI (cst C A p b1+p a) (cst C A p b2+p E) else cst C A p b1+mxI (p a) (cst C A p b2+p E))+cst C A p R;split <;> omega
    · rw [if_neg e]
      rcases hR with hR | ⟨e2,hR⟩ | ⟨e2,e3,hR⟩ | ⟨e2,hR⟩
      · exact absurd hR e
      · rw [if_pos e2]
        have h10:p a≤(if C.c i=29 then p a else mxI (p a) (cst C A p b2+p E)):=(by split <;> omega);by_cases e3:v=a
        · have := rem_end (p := p) (A := A) q9 r
          rw [e3,this];omega
        · have:=rem_ge b1 _ _ q9 (by omega) v r (by omega) (by omega) hR;omega
      · rw [if_neg (by omega), if_pos e3]
        by_cases e4:v=E
        · have := rem_end (p := p) (A := A) q10 r
          rw [e4,this];omega
        · have:=rem_ge b2 _ _ q10 (by omega) v r (by omega) (by omega) hR;omega
      · rw [if_neg (by omega),if_neg (by omega)];exact rem_ge R _ _ q11 hj v r (by omega) h2 hR
theorem stp_ok:∀ (R:Fl.Tr) (k j:Nat),Fl.Is C R k j→j≤n→∀ v r v' r',k≤v→v<j→RI C R v r→Stp C A v r v' r'→k≤v'∧v'≤j∧p v+rem C A p R v' r'≤rem C A p R v r∧RI C R v' r'∧∀ x,x<k→r' x=r x
  | .nil,k,j,h,hj,v,r,v',r',h1,h2,hR,hS=>by have:k=j:=h;omega
  | .one i R,k,j,h,hj,v,r,v',r',h1,h2,hR,hS=>by
    obtain⟨q1,q2,q3⟩:=h;subst q1;by_cases e:v=i
    · subst e
      have hc:C.c v≠29∧C.c v≠34∧C.c v≠30∧C.c v≠35:=⟨fun q=>q2 (by omega),fun q=>q2 (by omega),fun q=>q2 (by omega),fun q=>q2 (by omega)⟩;obtain⟨rfl,rfl⟩:r'=r∧v'=v+1:=by
        rcases hS with ⟨q,_⟩ | ⟨q,_⟩ | ⟨q,_⟩ | ⟨q,_⟩ | ⟨q,_⟩ | ⟨_,_,_,_,h5,h6⟩
        · exact absurd q hc.1
        · exact absurd q hc.2.1
        · exact absurd q hc.2.2.1
        · exact absurd q hc.2.2.2
        · exact absurd q hc.2.2.2
        · exact⟨h5,h6⟩
      have l:=q3.le;refine⟨by omega,by omega,?_,.inr (RI_start q3 _),fun _ _=>rfl⟩;show p v+(if v+1=v then _ else rem C A p R (v+1) r')≤(if v=v then p v+cst C A p R else _);rw [if_neg (by omega),if_pos rfl,rem_start q3];exact Int.le_refl _
    · obtain ⟨g1, g2, g3, g4, g5⟩ := stp_ok R _ _ q3 hj v r v' r' (by omega) h2 (hR.resolve_left e) hS
      refine⟨by omega,g2,?_,.inr g4,fun x hx=>g5 x (by omega)⟩;show p v+(if v'=i then _ else rem C A p R v' r')≤(if v=i then _ else rem C A p R v r);rw [if_neg (by omega),if_neg e];exact g3
  | .plain i E b R,k,j,h,hj,v,r,v',r',h1,h2,hR,hS=>by
    obtain⟨q1,q2,q3,q4,q5,q6,q7,q8⟩:=h;subst q1;have l1:=q8.le;have l2:=q7.le;have h3:=(cst_bd hp hA R _ _ q8 hj).1;have h4:=(cst_bd hp hA b _ _ q7 (by omega)).1;have h5:=hp E;have hA':=hA i (by omega);have hin:∀ u ρ,i<u→u≤E→rem C A p (.plain i E b R) u ρ=rem C A p b u ρ+p E+(if C.c i=30 then (ρ i-1)*(cst C A p b+p E) else 0)+cst C A p R:=fun u ρ a1 a2=>by
      show (if u=i then _ else if u≤E then _ else _)=_;rw [if_neg (by omega),if_pos a2]
    have hout:∀ u ρ,E<u→rem C A p (.plain i E b R) u ρ=rem C A p R u ρ:=fun u ρ a1=>by
      show (if u=i then _ else if u≤E then _ else _)=_;rw [if_neg (by omega),if_neg (by omega)]
    have hat:∀ ρ,rem C A p (.plain i E b R) i ρ=p i+(if C.c i=30 then A i*(cst C A p b+p E) else cst C A p b+p E)+cst C A p R:=fun ρ=>if_pos rfl;have hb0:∀ ρ,rem C A p b (i+1) ρ=cst C A p b:=rem_start q7;have hbE:∀ ρ,rem C A p b E ρ=0:=rem_end q7;have hR0:∀ ρ,rem C A p R (E+1) ρ=cst C A p R:=rem_start q8;by_cases e:v=i
    · subst e
      by_cases c30:C.c v=30
      · rcases hS with ⟨q, _⟩ | ⟨q, _⟩ | ⟨q, hS⟩ | ⟨q, _⟩ | ⟨q, _⟩ | ⟨_, _, q, _⟩
        · omega
        · omega
        · have hA2 := hA' c30
          rcases hS with ⟨rfl,hv⟩ | ⟨x,x1,x2,rfl,rfl⟩
          · obtain rfl : v' = E + 1 := by omega
            refine⟨by omega,by omega,?_,.inr (.inr ⟨by omega,RI_start q8 _⟩),fun _ _=>rfl⟩;rw [hout _ _ (by omega),hat,hR0,if_pos c30];have:=Int.mul_nonneg hA2.1 (show 0≤cst C A p b+p E by omega);omega
          · refine ⟨by omega, by omega, ?_, .inr (.inl ⟨by omega, fun _ => by rw [upR_same]; exact x1, RI_start q7 _⟩), fun y hy => upR_ne (by omega)⟩
            rw [hin _ _ (by omega) (by omega),hat,hb0,if_pos c30,if_pos c30,upR_same,mul_split];have:=Int.mul_le_mul_of_nonneg_right x2 (show 0≤cst C A p b+p E by omega);omega
        · omega
        · omega
        · exact absurd c30 q
      · have hv:r'=r∧(v'=v+1∨v'=E):=by
          rcases hS with ⟨q,h6,h7⟩ | ⟨q,_⟩ | ⟨q,_⟩ | ⟨q,_⟩ | ⟨q,_⟩ | ⟨_,_,_,_,h6,h7⟩
          · exact⟨h6,by omega⟩
          · omega
          · omega
          · omega
          · omega
          · exact⟨h6,.inl h7⟩
        obtain⟨rfl,hv⟩:=hv;rcases hv with rfl | rfl
        · refine ⟨by omega, by omega, ?_, .inr (.inl ⟨by omega, fun q => absurd q c30, RI_start q7 _⟩), fun _ _ => rfl⟩
          rw [hin _ _ (by omega) (by omega),hat,hb0,if_neg c30,if_neg c30];omega
        · refine ⟨by omega, by omega, ?_, .inr (.inl ⟨by omega, fun q => absurd q c30, RI_end q7 _⟩), fun _ _ => rfl⟩
          rw [hin _ _ (by omega) (by omega),hat,hbE,if_neg c30,if_neg c30];omega
    · rcases hR with hR | ⟨e2, hR, hR2⟩ | ⟨e2, hR⟩
      · exact absurd hR e
      · by_cases e3 : v = E
        · subst e3
          have ho:(C.o v).toNat=i:=(by rw [q5];exact Int.toNat_natCast i);rcases hS with ⟨q,_⟩ | ⟨q,_⟩ | ⟨q,_⟩ | ⟨q,c30,h6,h7⟩ | ⟨q,c30,h6,h7⟩ | ⟨_,_,_,q,_⟩
          · omega
          · omega
          · omega
          · rw [ho] at c30 h6 h7
            subst h6;rcases h7 with ⟨x1,rfl⟩ | ⟨x1,rfl⟩
            · refine ⟨by omega, by omega, ?_, .inr (.inl ⟨by omega, fun _ => by rw [upR_same]; omega, RI_start q7 _⟩), fun y hy => upR_ne (by omega)⟩
              rw [hin _ _ (by omega) (by omega),hin _ _ (by omega) (by omega),hb0,hbE,if_pos c30,if_pos c30,upR_same,mul_split (r i-1)];omega
            · refine ⟨by omega, by omega, ?_, .inr (.inr ⟨by omega, RI_start q8 _⟩), fun y hy => upR_ne (by omega)⟩
              rw [hout _ _ (by omega),hin _ _ (by omega) (by omega),hR0,hbE,if_pos c30,show r i=1 by have:=hR c30;omega];simp
          · rw [ho] at c30
            subst h6 h7;refine⟨by omega,by omega,?_,.inr (.inr ⟨by omega,RI_start q8 _⟩),fun _ _=>rfl⟩;rw [hout _ _ (by omega),hin _ _ (by omega) (by omega),hR0,hbE,if_neg c30];omega
          · omega
        · obtain ⟨g1, g2, g3, g4, g5⟩ := stp_ok b _ _ q7 (by omega) v r v' r' (by omega) (by omega) hR2 hS
          have gi:=g5 i (by omega);refine⟨by omega,by omega,?_,.inr (.inl ⟨g2,fun q=>by rw [gi];exact hR q,g4⟩),fun x hx=>g5 x (by omega)⟩;rw [hin _ _ (by omega) g2,hin _ _ (by omega) e2,gi];omega
      · obtain ⟨g1, g2, g3, g4, g5⟩ := stp_ok R _ _ q8 hj v r v' r' (by omega) h2 hR hS
        refine⟨by omega,g2,?_,.inr (.inr ⟨by omega,g4⟩),fun x hx=>g5 x (by omega)⟩;rw [hout _ _ (by omega),hout _ _ e2];exact g3
  | .alt i a E b1 b2 R,k,j,h,hj,v,r,v',r',h1,h2,hR,hS=>by
    obtain⟨q1,q2,q3,q4,q5,q6,q7,q8,q9,q10,q11⟩:=h;subst q1;have l1:=q9.le;have l2:=q10.le;have l3:=q11.le;have h3:=(cst_bd hp hA R _ _ q11 hj).1;have h4:=(cst_bd hp hA b1 _ _ q9 (by omega)).1;have h5:=(cst_bd hp hA b2 _ _ q10 (by omega)).1;have h6:=hp E;have h7:=hp a;have h8:=le_mxI (x:=cst C A p b1+p a) (y:=cst C A p b2+p E);have h9:=le_mxI (x:=p a) (y:=cst C A p b2+p E);have hin1:∀ u ρ,i<u→u≤a→rem C A p (.alt i a E b1 b2 R) u ρ=rem C A p b1 u ρ+(if C.c i=29 then p a else mxI (p a) (cst C A p b2+p E))+cst C A p R:=fun u ρ a1 a2=>by
      show (if u=i then _ else if u≤a then _ else if u≤E then _ else _)=_;rw [if_neg (by omega),if_pos a2]
    have hin2:∀ u ρ,a<u→u≤E→rem C A p (.alt i a E b1 b2 R) u ρ=rem C A p b2 u ρ+p E+cst C A p R:=fun u ρ a1 a2=>by
      show (if u=i then _ else if u≤a then _ else if u≤E then _ else _)=_;rw [if_neg (by omega),if_neg (by omega),if_pos a2]
    have hout:∀ u ρ,E<u→rem C A p (.alt i a E b1 b2 R) u ρ=rem C A p R u ρ:=fun u ρ a1=>by
      show (if u=i then _ else if u≤a then _ else if u≤E then _ else _)=_;rw [if_neg (by omega),if_neg (by omega),if_neg (by omega)]
    have hat:∀ ρ,rem C A p (.alt i a E b1 b2 R) i ρ=p i+(if C.c i=29 then mxI (cst C A p b1+p a) (cst C A p b2+p E) else cst C A p b1+mxI (p a) (cst C A p b2+p E))+cst C A p R:=fun ρ=>if_pos rfl;have h10:p a≤(if C.c i=29 then p a else mxI (p a) (cst C A p b2+p E)):=(by split <;> omega);have hb0:∀ ρ,rem C A p b1 (i+1) ρ=cst C A p b1:=rem_start q9;have hbE:∀ ρ,rem C A p b1 a ρ=0:=rem_end q9;have hc0:∀ ρ,rem C A p b2 (a+1) ρ=cst C A p b2:=rem_start q10;have hcE:∀ ρ,rem C A p b2 E ρ=0:=rem_end q10;have hR0:∀ ρ,rem C A p R (E+1) ρ=cst C A p R:=rem_start q11;by_cases e:v=i
    · subst e
      have hv:r'=r∧(v'=v+1∨(v'=a+1∧C.c v=29)):=by
        rcases hS with ⟨q,g6,g7⟩ | ⟨q,_⟩ | ⟨q,_⟩ | ⟨q,_⟩ | ⟨q,_⟩ | ⟨_,_,_,_,g6,g7⟩
        · refine ⟨g6, ?_⟩
          rcases g7 with g7 | ⟨_,g7⟩ | ⟨g7,_⟩
          · exact .inl g7
          · exact .inr ⟨by omega,q⟩
          · omega
        · omega
        · omega
        · omega
        · omega
        · exact⟨g6,.inl g7⟩
      obtain⟨rfl,hv⟩:=hv;rcases hv with rfl | ⟨rfl,c29⟩
      · refine ⟨by omega, by omega, ?_, .inr (.inl ⟨by omega, RI_start q9 _⟩), fun _ _ => rfl⟩
        rw [hin1 _ _ (by omega) (by omega),hat,hb0];split <;> omega
      · refine ⟨by omega, by omega, ?_, .inr (.inr (.inl ⟨by omega, by omega, RI_start q10 _⟩)), fun _ _ => rfl⟩
        rw [hin2 _ _ (by omega) (by omega),hat,hc0,if_pos c29];omega
    · rcases hR with hR | ⟨e2, hR⟩ | ⟨e2, e3, hR⟩ | ⟨e2, hR⟩
      · exact absurd hR e
      · by_cases e3 : v = a
        · subst e3
          have ho:(C.o v).toNat=i:=(by rw [q5];exact Int.toNat_natCast i);have hv:r'=r∧v'=E+1:=by
            rcases hS with ⟨q,_⟩ | ⟨q,g6,g7⟩ | ⟨q,_⟩ | ⟨q,_⟩ | ⟨q,_⟩ | ⟨_,q,_⟩
            · omega
            · rw [ho] at g7;exact⟨g6,by omega⟩
            · omega
            · omega
            · omega
            · omega
          obtain⟨rfl,rfl⟩:=hv;refine⟨by omega,by omega,?_,.inr (.inr (.inr ⟨by omega,RI_start q11 _⟩)),fun _ _=>rfl⟩;rw [hout _ _ (by omega),hin1 _ _ (by omega) (by omega),hR0,hbE];omega
        · obtain ⟨g1, g2, g3, g4, g5⟩ := stp_ok b1 _ _ q9 (by omega) v r v' r' (by omega) (by omega) hR hS
          refine⟨by omega,by omega,?_,.inr (.inl ⟨g2,g4⟩),fun x hx=>g5 x (by omega)⟩;rw [hin1 _ _ (by omega) g2,hin1 _ _ (by omega) e2];omega
      · by_cases e4 : v = E
        · subst e4
          have ho:(C.o v).toNat=i:=(by rw [q6];exact Int.toNat_natCast i);have hv:r'=r∧v'=v+1:=by
            rcases hS with ⟨q,_⟩ | ⟨q,_⟩ | ⟨q,_⟩ | ⟨q,c30,_⟩ | ⟨q,_,g6,g7⟩ | ⟨_,_,_,q,_⟩
            · omega
            · omega
            · omega
            · rw [ho] at c30;omega
            · exact⟨g6,g7⟩
            · omega
          obtain⟨rfl,rfl⟩:=hv;refine⟨by omega,by omega,?_,.inr (.inr (.inr ⟨by omega,RI_start q11 _⟩)),fun _ _=>rfl⟩;rw [hout _ _ (by omega),hin2 _ _ (by omega) (by omega),hR0,hcE];omega
        · obtain ⟨g1, g2, g3, g4, g5⟩ := stp_ok b2 _ _ q10 (by omega) v r v' r' (by omega) (by omega) hR hS
          refine⟨by omega,by omega,?_,.inr (.inr (.inl ⟨by omega,g2,g4⟩)),fun x hx=>g5 x (by omega)⟩;rw [hin2 _ _ (by omega) g2,hin2 _ _ e2 e3];omega
      · obtain ⟨g1, g2, g3, g4, g5⟩ := stp_ok R _ _ q11 hj v r v' r' (by omega) h2 hR hS
        refine⟨by omega,g2,?_,.inr (.inr (.inr ⟨by omega,g4⟩)),fun x hx=>g5 x (by omega)⟩;rw [hout _ _ (by omega),hout _ _ e2];exact g3
theorem trp_ok:∀ (R:Fl.Tr) (k j:Nat),Fl.Is C R k j→j≤n→∀ (v:Nat) (r:Nat→Int) (v' t:Nat),k≤v→v<j→RI C R v r→k≤t→t<v→C.c t=33→(v:Int)<C.e t→(∀ u,t<u→u<v→C.c u=33→¬ (v:Int)<C.e u)→(v':Int)=C.e t+1→k≤v'∧v'≤j∧p v+rem C A p R v' r≤rem C A p R v r∧RI C R v' r
  | .nil,k,j,h,hj,v,r,v',t,h1,h2,hR,t1,t2,t3,t4,t5,t6=>by have:k=j:=h;omega
  | .one i R,k,j,h,hj,v,r,v',t,h1,h2,hR,t1,t2,t3,t4,t5,t6=>by
    obtain⟨q1,q2,q3⟩:=h;subst q1;have e:v≠i:=(by omega);have et:t≠i:=fun q=>by subst q;exact q2 ⟨by omega,by omega⟩
    obtain⟨g1,g2,g3,g4⟩:=trp_ok R _ _ q3 hj v r v' t (by omega) h2 (hR.resolve_left e) (by omega) t2 t3 t4 t5 t6;refine⟨by omega,g2,?_,.inr g4⟩;show p v+(if v'=i then _ else rem C A p R v' r)≤(if v=i then _ else rem C A p R v r);rw [if_neg (by omega),if_neg e];exact g3
  | .plain i E b R,k,j,h,hj,v,r,v',t,h1,h2,hR,t1,t2,t3,t4,t5,t6=>by
    obtain⟨q1,q2,q3,q4,q5,q6,q7,q8⟩:=h;subst q1;have l1:=q8.le;have l2:=q7.le;have hin:∀ u ρ,i<u→u≤E→rem C A p (.plain i E b R) u ρ=rem C A p b u ρ+p E+(if C.c i=30 then (ρ i-1)*(cst C A p b+p E) else 0)+cst C A p R:=fun u ρ a1 a2=>by
      show (if u=i then _ else if u≤E then _ else _)=_;rw [if_neg (by omega),if_pos a2]
    have hout:∀ u ρ,E<u→rem C A p (.plain i E b R) u ρ=rem C A p R u ρ:=fun u ρ a1=>by
      show (if u=i then _ else if u≤E then _ else _)=_;rw [if_neg (by omega),if_neg (by omega)]
    have et:t≠i:=fun q=>by subst q;omega
    rcases hR with hR | ⟨e2,hR,hR2⟩ | ⟨e2,hR⟩
    · omega
    · have := fun q : t < E => try_in q7 t (by omega) q t3
      have e3:v<E:=(by omega);obtain⟨g1,g2,g3,g4⟩:=trp_ok b _ _ q7 (by omega) v r v' t (by omega) e3 hR2 (by omega) t2 t3 t4 t5 t6;refine⟨by omega,by omega,?_,.inr (.inl ⟨g2,hR,g4⟩)⟩;rw [hin _ _ (by omega) g2,hin _ _ (by omega) e2];omega
    · have := fun q : t < E => try_in q7 t (by omega) q t3
      have e4:t≠E:=fun q=>by subst q;omega
      obtain⟨g1,g2,g3,g4⟩:=trp_ok R _ _ q8 hj v r v' t (by omega) h2 hR (by omega) t2 t3 t4 t5 t6;refine⟨by omega,g2,?_,.inr (.inr ⟨by omega,g4⟩)⟩;rw [hout _ _ (by omega),hout _ _ e2];exact g3
  | .alt i a E b1 b2 R,k,j,h,hj,v,r,v',t,h1,h2,hR,t1,t2,t3,t4,t5,t6=>by
    obtain⟨q1,q2,q3,q4,q5,q6,q7,q8,q9,q10,q11⟩:=h;subst q1;have l1:=q9.le;have l2:=q10.le;have l3:=q11.le;have h5:=(cst_bd hp hA b2 _ _ q10 (by omega)).1;have h9:=le_mxI (x:=p a) (y:=cst C A p b2+p E);have hin1:∀ u ρ,i<u→u≤a→rem C A p (.alt i a E b1 b2 R) u ρ=rem C A p b1 u ρ+(if C.c i=29 then p a else mxI (p a) (cst C A p b2+p E))+cst C A p R:=fun u ρ a1 a2=>by
      show (if u=i then _ else if u≤a then _ else if u≤E then _ else _)=_;rw [if_neg (by omega),if_pos a2]
    have hin2:∀ u ρ,a<u→u≤E→rem C A p (.alt i a E b1 b2 R) u ρ=rem C A p b2 u ρ+p E+cst C A p R:=fun u ρ a1 a2=>by
      show (if u=i then _ else if u≤a then _ else if u≤E then _ else _)=_;rw [if_neg (by omega),if_neg (by omega),if_pos a2]
    have hout:∀ u ρ,E<u→rem C A p (.alt i a E b1 b2 R) u ρ=rem C A p R u ρ:=fun u ρ a1=>by
      show (if u=i then _ else if u≤a then _ else if u≤E then _ else _)=_;rw [if_neg (by omega),if_neg (by omega),if_neg (by omega)]
    have i1:=fun (q:i<t) (q':t<a)=>try_in q9 t (by omega) q' t3;have i2:=fun (q:a<t) (q':t<E)=>try_in q10 t (by omega) q' t3;have ea:t≠a:=fun q=>by subst q;omega
    have eE:t≠E:=fun q=>by subst q;omega
    rcases hR with hR | ⟨e2,hR⟩ | ⟨e2,e3,hR⟩ | ⟨e2,hR⟩
    · omega
    · have e3:v<a:=by
        by_cases e:t=i
        · subst e;omega
        · have:=i1 (by omega) (by omega);omega
      by_cases e:t=i
      · subst e
        obtain rfl:v'=a+1:=(by omega);refine⟨by omega,by omega,?_,.inr (.inr (.inl ⟨by omega,by omega,RI_start q10 _⟩))⟩;have:=rem_ge hp hA b1 _ _ q9 (by omega) v r (by omega) e3 hR;rw [hin2 _ _ (by omega) (by omega),hin1 _ _ (by omega) e2,rem_start q10,if_neg (by omega)];omega
      · obtain ⟨g1, g2, g3, g4⟩ := trp_ok b1 _ _ q9 (by omega) v r v' t (by omega) e3 hR (by omega) t2 t3 t4 t5 t6
        refine⟨by omega,by omega,?_,.inr (.inl ⟨g2,g4⟩)⟩;rw [hin1 _ _ (by omega) g2,hin1 _ _ (by omega) e2];omega
    · have e:a<t:=by
        by_cases e:t=i
        · subst e;omega
        · have:=fun q=>i1 (by omega) q;omega
      have e4:v<E:=(by have:=fun q=>i2 e q;omega);obtain⟨g1,g2,g3,g4⟩:=trp_ok b2 _ _ q10 (by omega) v r v' t (by omega) e4 hR (by omega) t2 t3 t4 t5 t6;refine⟨by omega,by omega,?_,.inr (.inr (.inl ⟨by omega,g2,g4⟩))⟩;rw [hin2 _ _ (by omega) g2,hin2 _ _ e2 e3];omega
    · have e:E<t:=by
        by_cases e:t=i
        · subst e;omega
        · by_cases e6 : t < a
          · have:=i1 (by omega) e6;omega
          · by_cases e7 : t < E
            · have:=i2 (by omega) e7;omega
            · omega
      obtain⟨g1,g2,g3,g4⟩:=trp_ok R _ _ q11 hj v r v' t (by omega) h2 hR (by omega) t2 t3 t4 t5 t6;refine⟨by omega,g2,?_,.inr (.inr (.inr ⟨by omega,g4⟩))⟩;rw [hout _ _ (by omega),hout _ _ e2];exact g3
end
inductive Wk (C:Fl.Cd) (A:Nat→Int) (n:Nat):List Nat→Nat→(Nat→Int)→Prop
  | nil (r:Nat→Int):Wk C A n [] 0 r
  | stp {xs:List Nat} {v v':Nat} {r r':Nat→Int} (h:Wk C A n xs v r) (hv:v<n) (hs:Stp C A v r v' r'):Wk C A n (xs++[v]) v' r'
  | trp {xs:List Nat} {v v':Nat} {r:Nat→Int} (h:Wk C A n xs v r) (hv:v<n) (hs:Trp C v v'):Wk C A n (xs++[v]) v' r
theorem Wk.cost {C:Fl.Cd} {A p:Nat→Int} {n:Nat} {R:Fl.Tr} (hp:∀ i,0≤p i∧p i≤100) (hA:∀ i,i<n→C.c i=30→0≤A i∧A i≤50) (hR:Fl.Is C R 0 n) {xs:List Nat} {v:Nat} {r:Nat→Int} (h:Wk C A n xs v r):v≤n∧(∀ x∈xs,x<n)∧RI C R v r∧(xs.map p).sum+rem C A p R v r≤cst C A p R:=by
  induction h with
  | nil r=>exact⟨Nat.zero_le _,(fun x hx=>by cases hx),RI_start hR r,by rw [rem_start hR];simp⟩
  | stp h hv hs ih =>
    obtain⟨g1,g2,g3,g4⟩:=ih;obtain⟨k1,k2,k3,k4,-⟩:=stp_ok hp hA R 0 n hR (Nat.le_refl _) _ _ _ _ (Nat.zero_le _) hv g3 hs;refine⟨k2,fun x hx=>?_,k4,?_⟩
    · rcases List.mem_append.1 hx with q | q
      · exact g2 x q
      · rw [List.mem_singleton.1 q];exact hv
    · rw [List.map_append,List.sum_append];simp only [List.map_cons,List.map_nil,List.sum_cons,List.sum_nil];omega
  | trp h hv hs ih =>
    obtain⟨g1,g2,g3,g4⟩:=ih;obtain⟨t,t2,t3,t4,t5,t6⟩:=hs;obtain⟨k1,k2,k3,k4⟩:=trp_ok hp hA R 0 n hR (Nat.le_refl _) _ _ _ t (Nat.zero_le _) hv g3 (Nat.zero_le _) t2 t3 t4 t5 t6;refine⟨k2,fun x hx=>?_,k4,?_⟩
    · rcases List.mem_append.1 hx with q | q
      · exact g2 x q
      · rw [List.mem_singleton.1 q];exact hv
    · rw [List.map_append,List.sum_append];simp only [List.map_cons,List.map_nil,List.sum_cons,List.sum_nil];omega
end Ca
end Go.Proofs.YtmjnakhpekbenaaGreat
namespace Go.Proofs.YtmjnakhpekbenaaGreat
set_option maxRecDepth 20000
set_option maxHeartbeats 4000000
open Go.RowKit Fw
namespace Ca
structure CEnv (pb:Nat) (cq:Option Addr) (n cap gp:Nat) (c A B p:Nat→Int) (w:World):Prop where
  code:Ec.InC w cq n c A B
  pbr:∀ i,i<1→w.rangeAt pb i [.slice cq n cap,vS gp n n]
  row:∀ i,i<n→w.rangeAt gp i [vI (p i)]
theorem CEnv.below {pb:Nat} {cq:Option Addr} {n cap gp:Nat} {c A B p:Nat→Int} {w w':World} (h:CEnv pb cq n cap gp c A B p w) (hb:Below w.heap.size w w'):CEnv pb cq n cap gp c A B p w' :=
  ⟨h.code.below hb,fun i hi=>HP.oldRange (HP.of_below (S:=Tr) hb) trivial (h.pbr i hi),fun i hi=>HP.oldRange (HP.of_below (S:=Tr) hb) trivial (h.row i hi)⟩
def CsAll (P:Nat→Nat→Fl.Tr→Prop):Fl.Tr→Prop
  | .nil=>True
  | .one _ r=>CsAll P r
  | .plain i E b r=>P (i+1) E b∧CsAll P r
  | .alt i a E b1 b2 r=>(P (i+1) a b1∧P (a+1) E b2)∧CsAll P r
def CsP (pb:Nat) (cq:Option Addr) (n cap gp:Nat) (c A B p:Nat→Int) (k j:Nat) (R:Fl.Tr):Prop:=∀ w,CEnv pb cq n cap gp c A B p w→Calls Tryz.prog 27 #[vP pb 0,vI (k:Int),vI (j:Int)] w fun e w'=>e=.returned (.int .i64 (cst (cdOf c n) A p R))∧Below w.heap.size w w'
theorem rMatch_at {p:Option Addr} {n cap:Nat} {c A B:Nat→Int} {i:Nat} {x z:Int} (h1:Ec.maA c A B n (i:Int)=x) (h2:Ec.maE c A B n (i:Int)=z) (w:World) (hIn:Ec.InC w p n c A B) (hn:n≤400) (hi:i<n) :
    Calls Tryz.prog 29 #[.slice p n cap,vI (i:Int)] w fun e w'=>e=.returned (.tuple #[vI x,vI z,vI (Ec.maF c A B n (i:Int))])∧Below w.heap.size w w':=by
  have:=Ec.rMatch2_any p n cap c A B (i:Int) w hIn hn (by omega) (by omega);unfold Ec.MaV at this;rw [h1,h2] at this;exact this
theorem clist_any (pb:Nat) (cq:Option Addr) (n cap gp:Nat) (c A B p:Nat→Int) (hc:Ec.chk c A B false n=0) (hp:∀ i,0≤p i∧p i≤100) (hA:∀ i,i<n→(cdOf c n).c i=30→0≤A i∧A i≤50) (R:Fl.Tr) (k j:Nat) (hIs0:Fl.Is (cdOf c n) R k j) (hjn:j≤n) (hsm0:Sm (cdOf c n) A p R) (hK:cst (cdOf c n) A p R≤1000000000000000) (hbr0:CsAll (CsP pb cq n cap gp c A B p) R) (w:World) (hC:CEnv pb cq n cap gp c A B p w) :
  Calls Tryz.prog 27 #[vP pb 0,vI (k:Int),vI (j:Int)] w fun e w'=>e=.returned (.int .i64 (cst (cdOf c n) A p R))∧Below w.heap.size w w':=by
 have hn9:=(Ec.chk_ok hc).1;have hkj:=hIs0.le;refine calls_of Tryz.func27 rfl (m:=148) rfl [(0,vP pb 0),(1,vI (k:Int)),(2,vI (j:Int))] (Fr_enter [vP pb 0,vI (k:Int),vI (j:Int)] 148 (Nat.le_of_ble_eq_true rfl)) ?_;have hH1:HP Tr w w []:=HP.refl w;refine WC.seq fun K2 hK2=>WC.region (WL.z (vI 0) 6 (WL.k hK2 (WC.seq fun K3 hK3=>WC.region (WL.z (vI 0) 7 (WL.k hK3 ?_)))));refine WC.seq fun K4 hK4=>WC.seq fun K5 hK5=>WC.region (WL.z (vI (k:Int)) 15 (WL.z (vI (k:Int)) 8 (WL.k hK5 (WC.block ?_))));refine WC.loop (fun kk0 ll0 ww0=>∃ (i:Nat) (R1:Fl.Tr) (sum:Int),ll0=[(0,vP pb 0),(2,vI (j:Int)),(7,vI sum),(8,vI (i:Int))]∧kk0=j-i∧(i≤j)∧(Fl.Is (cdOf c n) R1 i j)∧(sum+cst (cdOf c n) A p R1=cst (cdOf c n) A p R)∧(0≤sum)∧(Sm (cdOf c n) A p R1)∧(CsAll (CsP pb cq n cap gp c A B p) R1)∧HP Tr w ww0 []) (j-k) [(0,vP pb 0),(2,vI (j:Int)),(7,vI 0),(8,vI (k:Int))] ⟨rfl,rfl,rfl,rfl,trivial⟩ ⟨k,R,0,rfl,rfl,hkj,hIs0,by omega,Int.le_refl _,hsm0,hbr0,hH1⟩ ?_;rintro kk l w7 ⟨i,R1,sum,rfl,hkk,hi,hIs,hsum,hs0,hsm,hbr,hH8⟩ K6 hK6;refine WC.seq fun K9 hK9=>WC.seq fun K10 hK10=>WC.region (WL.z (vI (i:Int)) 16 (WL.z (vI (j:Int)) 17 ?_));by_cases hlt:(i:Int)<(j:Int)
 ·
  refine WL.y (.bool true) 18 (x_lss rfl rfl rfl (dT (hlt))) (WL.k hK10 ?_);refine WC.yes rfl ?_;refine WC.skip (WQ.then (hK9 _ _ _ (WC.seq fun K11 hK11=>WC.block (WC.seq fun K12 hK12=>?_))));obtain⟨gc,oc,rfl,hrowc⟩:=hC.code (by omega);cases R1 with
  | nil=>have e9:i=j:=hIs;omega
  | one i1 R2 =>
   obtain⟨rfl,hno,hIs2⟩:=hIs;have hopn:Ec.opn (c i1)=false:=Ec.opn_no.2 (fun q=>hno ⟨q.1,by have q9:c i1≤33:=q.2;show c i1≤35;omega⟩);have hEj:=hIs2.le;have hsum:sum+(p i1+cst (cdOf c n) A p R2)=cst (cdOf c n) A p R:=hsum;have hs2:=hsm;have hnr:=(cst_bd hp hA R2 _ _ hIs2 (by omega)).1;have hpi:=hp i1;refine WC.region (WL.z (vI sum) 21 (WL.z (vP pb 0) 22 (WL.z (vP pb 0) 23 (WL.z (vP pb 1) 24 (WL.y (vS gp n n) 25 (x_load rfl rfl Tryz.underlying32 rfl ((HP.oldRange hH8 trivial (hC.pbr 0 (by omega))) 1 _ rfl)) (WL.z (vI (i1:Int)) 26 (WL.y (vP gp i1) 27 (x_ix (i1) (i1) Tryz.underlying32 sz3) (WL.y (vI (p i1)) 28 (x_load rfl rfl Tryz.underlying3 rfl ((HP.oldRange hH8 trivial (hC.row i1 (by omega))) 0 _ rfl)) (WL.y (vI (sum+(p i1))) 29 (x_ad (sum+(p i1))) (WL.z (vI (sum+(p i1))) 7 (WL.nil ?_)))))))))));refine WQ.then (hK12 _ _ _ (WC.sb [(0,vP pb 0),(2,vI (j:Int)),(7,vI (sum+(p i1))),(8,vI (i1:Int)),(18,.bool true)] (WC.seq fun K13 hK13=>WC.seq fun K14 hK14=>WC.region (WL.z (vP pb 0) 30 (WL.z (vP pb 0) 31 (WL.z (vP pb 0) 32 (WL.y (.slice (some ⟨gc,oc,none⟩) n cap) 33 (x_load rfl rfl Tryz.underlying24 rfl ((HP.oldRange hH8 trivial (hC.pbr 0 (by omega))) 0 _ rfl)) (WL.z (vI (i1:Int)) 34 (WL.y (vP gc (oc+i1*3)) 35 (x_ix (i1) (oc+i1*3) Tryz.underlying24 sz51) ?_)))))))));refine WL.z (vP gc (oc+i1*3)) 36 (WL.y (vI (c i1)) 37 (x_load rfl rfl Tryz.underlying3 rfl ((HP.oldRange hH8 trivial (hrowc i1 (by omega))) 0 _ rfl)) ?_);refine WL.c 46 #[vI (c i1)] 38 ?_;refine(Opens_at hopn _).mono ?_;rintro e w15 ⟨rfl,rfl⟩;refine⟨_,rfl,?_⟩;refine WL.z (.bool true) 39 (WL.k hK14 (WC.sb [(0,vP pb 0),(2,vI (j:Int)),(7,vI (sum+(p i1))),(8,vI (i1:Int)),(18,.bool true),(39,.bool true)] ?_));refine WC.yes rfl ?_;refine WC.exit (WQ.thenExit (WQ.inExit (WQ.then (hK11 _ _ _ (WC.region (WL.z (vI (i1:Int)) 19 (WL.y (vI ((i1+1:Nat):Int)) 20 (x_ad (((i1+1:Nat):Int))) (WL.z (vI ((i1+1:Nat):Int)) 8 (WL.nil (WQ.sb [(0,vP pb 0),(2,vI (j:Int)),(7,vI (sum+(p i1))),(8,vI ((i1+1:Nat):Int))] ?_))))))))))
   refine WQ.then (hK6 _ _ _ (by omega) ⟨i1+1,R2,sum+(p i1),rfl,rfl,by omega,hIs2,by omega,by omega,hs2,hbr,hH8⟩)
  | plain i1 E Rb R2 =>
   obtain⟨rfl,hop,he1,hd1,ho1,h35,hIb,hIs2⟩:=hIs;have hop:29≤c i1∧c i1≤32:=hop;have hopn:Ec.opn (c i1)=true:=Ec.opn_iff.2 ⟨hop.1,by omega⟩;have hEj:=hIs2.le;have hEb:=hIb.le;have hsum:sum+(p i1+(if c i1=30 then A i1*(cst (cdOf c n) A p Rb+p E) else cst (cdOf c n) A p Rb+p E)+cst (cdOf c n) A p R2)=cst (cdOf c n) A p R:=hsum;obtain⟨hs1,hsb,hs2⟩:=hsm;have hnb:=(cst_bd hp hA Rb _ _ hIb (by omega)).1;have hpE:=hp E;have hnr:=(cst_bd hp hA R2 _ _ hIs2 (by omega)).1;have hpi:=hp i1;obtain⟨hm1,hm2⟩:=ma_of hc (show i1<n by omega) hopn;have hm1:Ec.maA c A B n (i1:Int)=-1:=hm1.trans he1;have hm2:Ec.maE c A B n (i1:Int)=(E:Int):=hm2.trans hd1;have hv0:0≤(if c i1=30 then A i1*(cst (cdOf c n) A p Rb+p E) else cst (cdOf c n) A p Rb+p E):=by
       split
       · exact Int.mul_nonneg (hA i1 (by omega) (by assumption)).1 (by omega)
       · omega
   refine WC.region (WL.z (vI sum) 21 (WL.z (vP pb 0) 22 (WL.z (vP pb 0) 23 (WL.z (vP pb 1) 24 (WL.y (vS gp n n) 25 (x_load rfl rfl Tryz.underlying32 rfl ((HP.oldRange hH8 trivial (hC.pbr 0 (by omega))) 1 _ rfl)) (WL.z (vI (i1:Int)) 26 (WL.y (vP gp i1) 27 (x_ix (i1) (i1) Tryz.underlying32 sz3) (WL.y (vI (p i1)) 28 (x_load rfl rfl Tryz.underlying3 rfl ((HP.oldRange hH8 trivial (hC.row i1 (by omega))) 0 _ rfl)) (WL.y (vI (sum+(p i1))) 29 (x_ad (sum+(p i1))) (WL.z (vI (sum+(p i1))) 7 (WL.nil ?_)))))))))));refine WQ.then (hK12 _ _ _ (WC.sb [(0,vP pb 0),(2,vI (j:Int)),(7,vI (sum+(p i1))),(8,vI (i1:Int)),(18,.bool true)] (WC.seq fun K16 hK16=>WC.seq fun K17 hK17=>WC.region (WL.z (vP pb 0) 30 (WL.z (vP pb 0) 31 (WL.z (vP pb 0) 32 (WL.y (.slice (some ⟨gc,oc,none⟩) n cap) 33 (x_load rfl rfl Tryz.underlying24 rfl ((HP.oldRange hH8 trivial (hC.pbr 0 (by omega))) 0 _ rfl)) (WL.z (vI (i1:Int)) 34 (WL.y (vP gc (oc+i1*3)) 35 (x_ix (i1) (oc+i1*3) Tryz.underlying24 sz51) ?_)))))))));refine WL.z (vP gc (oc+i1*3)) 36 (WL.y (vI (c i1)) 37 (x_load rfl rfl Tryz.underlying3 rfl ((HP.oldRange hH8 trivial (hrowc i1 (by omega))) 0 _ rfl)) ?_);refine WL.c 46 #[vI (c i1)] 38 ?_;refine(Opens_at hopn _).mono ?_;rintro e w18 ⟨rfl,rfl⟩;refine⟨_,rfl,?_⟩;refine WL.z (.bool false) 39 (WL.k hK17 (WC.sb [(0,vP pb 0),(2,vI (j:Int)),(7,vI (sum+(p i1))),(8,vI (i1:Int)),(18,.bool true),(39,.bool false)] ?_));refine WC.no rfl ?_;refine WC.skip (WQ.then (hK16 _ _ _ (WC.seq fun K19 hK19=>WC.region (WL.z (vP pb 0) 41 (WL.z (vP pb 0) 42 (WL.z (vP pb 0) 43 (WL.y (.slice (some ⟨gc,oc,none⟩) n cap) 44 (x_load rfl rfl Tryz.underlying24 rfl ((HP.oldRange hH8 trivial (hC.pbr 0 (by omega))) 0 _ rfl)) (WL.z (vI (i1:Int)) 45 ?_))))))));refine WL.c 47 #[.slice (some ⟨gc,oc,none⟩) n cap,vI (i1:Int)] 46 ?_;refine(Match_at hm1 hm2 _ (hC.below (HP.below hH8)).code (by omega) (by omega)).mono ?_
   rintro e w20 ⟨rfl,hb21⟩;refine⟨_,rfl,?_⟩;have hH22:=HP.call hH8 hb21;refine WL.z (.tuple #[vI (-1),vI (E:Int),vI (Ec.maF c A B n (i1:Int))]) 40 (WL.z (vI (-1)) 47 (WL.z (vI (E:Int)) 48 (WL.z (vI (Ec.maF c A B n (i1:Int))) 49 (WL.z (vI (-1)) 9 (WL.z (vI (E:Int)) 10 (WL.z (vI (Ec.maF c A B n (i1:Int))) 11 (WL.k hK19 (WC.sb [(0,vP pb 0),(2,vI (j:Int)),(7,vI (sum+(p i1))),(8,vI (i1:Int)),(9,vI (-1)),(10,vI (E:Int)),(18,.bool true),(39,.bool false)] (WC.seq fun K23 hK23=>?_)))))))));refine WC.region (WL.z (vI (-1)) 50 (WL.z (vI (-1)) 12 (WL.k hK23 (WC.seq fun K24 hK24=>WC.seq fun K25 hK25=>WC.region (WL.z (vI (-1)) 51 (WL.y (.bool true) 52 (x_lss rfl rfl rfl (by decide)) (WL.nil ?_)))))));refine WQ.then (hK25 _ _ _ (WC.yes rfl ?_));refine WC.region (WL.z (vI (E:Int)) 53 (WL.z (vI (E:Int)) 12 (WL.k hK24 (WC.seq fun K26 hK26=>?_))));refine WC.confG (γ:=Unit) [(12,vI (E:Int)),(53,vI (E:Int)),(52,.bool true),(51,vI (-1)),(50,vI (-1)),(0,vP pb 0),(2,vI (j:Int)),(7,vI (sum+(p i1))),(8,vI (i1:Int)),(9,vI (-1)),(10,vI (E:Int)),(18,.bool true),(39,.bool false)] (fun gy=>[vP pb 0,vI (i1:Int),vI ((i1+1:Nat):Int),vI (E:Int),vI (cst (cdOf c n) A p Rb),vP pb 0,vP pb 0,vP pb 1,vS gp n n,vI (E:Int),vP gp E,vI (p E),vI ((cst (cdOf c n) A p Rb)+(p E)),vI ((cst (cdOf c n) A p Rb)+(p E))]) (fun gy D wz=>HP Tr w wz []) () (by kernel_rfl) ⟨rfl,rfl,rfl,rfl,rfl,rfl,rfl,rfl,rfl,rfl,rfl,rfl,rfl,trivial⟩ (by kernel_rfl) (by kernel_rfl) (by kernel_rfl) (fun _=>rfl) (by kernel_rfl) (HP.drew hH22) ?_ ?_
   ·
    refine AllOk.cons ?o0 (AllOk.cons ?o1 (AllOk.cons ?o2 (AllOk.cons ?o3 (AllOk.cons ?o4 (AllOk.cons ?o5 (AllOk.cons ?o6 (AllOk.cons ?o7 (AllOk.cons ?o8 (AllOk.cons ?o9 (AllOk.cons ?o10 (AllOk.cons ?o11 (AllOk.cons ?o12 (AllOk.cons ?o13 (AllOk.nil _))))))))))))))
    case o0 =>
     intro gy D wz hDi hdep hclo hW;exact cfv gy wz (by kernel_rfl) hW
    case o1 =>
     intro gy D wz hDi hdep hclo hW;exact cfv gy wz (by kernel_rfl) hW
    case o2 =>
     intro gy D wz hDi hdep hclo hW;exact cfv gy wz (x_ad (((i1+1:Nat):Int))) hW
    case o3 =>
     intro gy D wz hDi hdep hclo hW;exact cfv gy wz (by kernel_rfl) hW
    case o4 =>
     intro gy D wz hDi hdep hclo hW;have hW2:=hW;exact .inl ⟨rfl,rfl,.inr (.inr ⟨27,#[vP pb 0,vI ((i1+1:Nat):Int),vI (E:Int)],by kernel_rfl,(hbr.1 _ (hC.below (HP.below hW))).mono fun e w2 h=>⟨gy,fun _ _=>rfl,h.1,HP.call hW h.2⟩⟩)⟩
    case o5 =>
     intro gy D wz hDi hdep hclo hW;exact cfv gy wz (by kernel_rfl) hW
    case o6 =>
     intro gy D wz hDi hdep hclo hW;exact cfv gy wz (by kernel_rfl) hW
    case o7 =>
     intro gy D wz hDi hdep hclo hW;exact cfv gy wz (by kernel_rfl) hW
    case o8 =>
     intro gy D wz hDi hdep hclo hW;exact cfv gy wz (x_load rfl rfl Tryz.underlying32 rfl ((HP.oldRange hW trivial (hC.pbr 0 (by omega))) 1 _ rfl)) hW
    case o9 =>
     intro gy D wz hDi hdep hclo hW;exact cfv gy wz (by kernel_rfl) hW
    case o10 =>
     intro gy D wz hDi hdep hclo hW;exact cfv gy wz (x_ix (E) (E) Tryz.underlying32 sz3) hW
    case o11 =>
     intro gy D wz hDi hdep hclo hW;exact cfv gy wz (x_load rfl rfl Tryz.underlying3 rfl ((HP.oldRange hW trivial (hC.row E (by omega))) 0 _ rfl)) hW
    case o12 =>
     intro gy D wz hDi hdep hclo hW;exact cfv gy wz (x_ad ((cst (cdOf c n) A p Rb)+(p E))) hW
    case o13 =>
     intro gy D wz hDi hdep hclo hW;exact cfv gy wz (by kernel_rfl) hW
   rintro gy D w27 hall hH28;clear hall;refine WQ.sb [(0,vP pb 0),(2,vI (j:Int)),(7,vI (sum+(p i1))),(8,vI (i1:Int)),(9,vI (-1)),(10,vI (E:Int)),(12,vI (E:Int)),(13,vI ((cst (cdOf c n) A p Rb)+(p E))),(18,.bool true),(39,.bool false),(52,.bool true)] (WQ.then (hK26 _ _ _ (WC.seq fun K29 hK29=>WC.seq fun K30 hK30=>WC.region (WL.z (vP pb 0) 67 (WL.z (vP pb 0) 68 (WL.z (vP pb 0) 69 (WL.y (.slice (some ⟨gc,oc,none⟩) n cap) 70 (x_load rfl rfl Tryz.underlying24 rfl ((HP.oldRange hH28 trivial (hC.pbr 0 (by omega))) 0 _ rfl)) (WL.z (vI (i1:Int)) 71 (WL.y (vP gc (oc+i1*3)) 72 (x_ix (i1) (oc+i1*3) Tryz.underlying24 sz51) ?_)))))))));refine WL.z (vP gc (oc+i1*3)) 73 (WL.y (vI (c i1)) 74 (x_load rfl rfl Tryz.underlying3 rfl ((HP.oldRange hH28 trivial (hrowc i1 (by omega))) 0 _ rfl)) (WL.k hK30 (WC.sb [(0,vP pb 0),(2,vI (j:Int)),(7,vI (sum+(p i1))),(8,vI (i1:Int)),(9,vI (-1)),(10,vI (E:Int)),(12,vI (E:Int)),(13,vI ((cst (cdOf c n) A p Rb)+(p E))),(18,.bool true),(39,.bool false),(52,.bool true),(74,vI (c i1))] (WC.block (WC.seq fun K31 hK31=>WC.region ?_)))));by_cases h29:c i1=29
   ·
    rw [if_neg (by omega)] at hsum;refine WL.y (.bool true) 79 (x_eql rfl rfl rfl (dT (h29))) (WL.z (.bool true) 78 (WL.k hK31 ?_));refine WC.yes rfl ?_;refine WC.seq fun K32 hK32=>WC.region (WL.z (vP pb 0) 80 (WL.z (vP pb 0) 81 (WL.z (vP pb 1) 82 (WL.y (vS gp n n) 83 (x_load rfl rfl Tryz.underlying32 rfl ((HP.oldRange hH28 trivial (hC.pbr 0 (by omega))) 1 _ rfl)) (WL.z (vI (E:Int)) 84 (WL.y (vP gp E) 85 (x_ix (E) (E) Tryz.underlying32 sz3) (WL.y (vI (p E)) 86 (x_load rfl rfl Tryz.underlying3 rfl ((HP.oldRange hH28 trivial (hC.row E (by omega))) 0 _ rfl)) (WL.z (vI (p E)) 14 (WL.nil (WQ.then ?_))))))))));refine hK32 _ _ _ (WC.sb [(0,vP pb 0),(2,vI (j:Int)),(7,vI (sum+(p i1))),(8,vI (i1:Int)),(9,vI (-1)),(10,vI (E:Int)),(12,vI (E:Int)),(13,vI ((cst (cdOf c n) A p Rb)+(p E))),(14,vI (p E)),(18,.bool true),(39,.bool false),(52,.bool true),(74,vI (c i1)),(78,.bool true)] (WC.seq fun K33 hK33=>WC.seq fun K34 hK34=>WC.region (WL.z (vI (-1)) 87 (WL.y (.bool false) 88 (x_geq rfl rfl rfl (by decide)) (WL.k hK34 ?_)))));refine WC.no rfl ?_;refine WC.skip (WQ.then (hK33 _ _ _ (WC.region (WL.z (vI (sum+(p i1))) 96 (WL.z (vI ((cst (cdOf c n) A p Rb)+(p E))) 97 (WL.z (vI (p E)) 98 (WL.y (vI (cst (cdOf c n) A p Rb+p E)) 99 (x_max (Z:=cst (cdOf c n) A p Rb+p E) (t:=0) rfl rfl rfl (if_neg (by omega))) (WL.y (vI ((sum+(p i1))+(cst (cdOf c n) A p Rb+p E))) 100 (x_ad ((sum+(p i1))+(cst (cdOf c n) A p Rb+p E))) (WL.z (vI ((sum+(p i1))+(cst (cdOf c n) A p Rb+p E))) 7 (WL.nil (WQ.inNormal ?_)))))))))));refine WQ.then (hK29 _ _ _ (WC.sb [(0,vP pb 0),(2,vI (j:Int)),(7,vI ((sum+(p i1))+(cst (cdOf c n) A p Rb+p E))),(8,vI (i1:Int)),(9,vI (-1)),(10,vI (E:Int)),(12,vI (E:Int)),(13,vI ((cst (cdOf c n) A p Rb)+(p E))),(14,vI (p E)),(18,.bool true),(39,.bool false),(52,.bool true),(74,vI (c i1)),(78,.bool true),(88,.bool false)] (WC.region (WL.z (vI (E:Int)) 146 (WL.z (vI (E:Int)) 8 (WL.nil (WQ.inNormal (WQ.then (hK11 _ _ _ (WC.region (WL.z (vI (E:Int)) 19 ?_)))))))))))
    refine WL.y (vI ((E+1:Nat):Int)) 20 (x_ad (((E+1:Nat):Int))) (WL.z (vI ((E+1:Nat):Int)) 8 (WL.nil (WQ.sb [(0,vP pb 0),(2,vI (j:Int)),(7,vI ((sum+(p i1))+(cst (cdOf c n) A p Rb+p E))),(8,vI ((E+1:Nat):Int))] ?_)));refine WQ.then (hK6 _ _ _ (by omega) ⟨E+1,R2,(sum+(p i1))+(cst (cdOf c n) A p Rb+p E),rfl,rfl,by omega,hIs2,by omega,by omega,hs2,hbr.2,hH28⟩)
   ·
    refine WL.y (.bool false) 79 (x_eql rfl rfl rfl (dF (h29))) (WL.z (.bool false) 78 (WL.k hK31 ?_));refine WC.no rfl ?_;refine WC.seq fun K35 hK35=>WC.region ?_;by_cases h30:c i1=30
    ·
     rw [if_pos h30] at hsum hv0;refine WL.y (.bool true) 102 (x_eql rfl rfl rfl (dT (h30))) (WL.z (.bool true) 101 (WL.k hK35 ?_));refine WC.yes rfl ?_;refine WC.region (WL.z (vI (sum+(p i1))) 103 (WL.z (vP pb 0) 104 (WL.z (vP pb 0) 105 (WL.z (vP pb 0) 106 (WL.y (.slice (some ⟨gc,oc,none⟩) n cap) 107 (x_load rfl rfl Tryz.underlying24 rfl ((HP.oldRange hH28 trivial (hC.pbr 0 (by omega))) 0 _ rfl)) (WL.z (vI (i1:Int)) 108 (WL.y (vP gc (oc+i1*3)) 109 (x_ix (i1) (oc+i1*3) Tryz.underlying24 sz51) (WL.z (vP gc (oc+i1*3+1)) 110 (WL.y (vI (A i1)) 111 (x_load rfl rfl Tryz.underlying3 rfl ((HP.oldRange hH28 trivial (hrowc i1 (by omega))) 1 _ rfl)) (WL.z (vI ((cst (cdOf c n) A p Rb)+(p E))) 112 (WL.y (vI (A i1*(cst (cdOf c n) A p Rb+p E))) 113 (x_mul (Z:=A i1*(cst (cdOf c n) A p Rb+p E)) rfl rfl rfl (rfl) (by omega) (by omega)) ?_)))))))))));refine WL.y (vI ((sum+(p i1))+(A i1*(cst (cdOf c n) A p Rb+p E)))) 114 (x_ad ((sum+(p i1))+(A i1*(cst (cdOf c n) A p Rb+p E)))) (WL.z (vI ((sum+(p i1))+(A i1*(cst (cdOf c n) A p Rb+p E)))) 7 (WL.nil (WQ.inNormal (WQ.then (hK29 _ _ _ (WC.sb [(0,vP pb 0),(2,vI (j:Int)),(7,vI ((sum+(p i1))+(A i1*(cst (cdOf c n) A p Rb+p E)))),(8,vI (i1:Int)),(9,vI (-1)),(10,vI (E:Int)),(12,vI (E:Int)),(13,vI ((cst (cdOf c n) A p Rb)+(p E))),(18,.bool true),(39,.bool false),(52,.bool true),(74,vI (c i1)),(78,.bool false),(101,.bool true)] (WC.region (WL.z (vI (E:Int)) 146 (WL.z (vI (E:Int)) 8 (WL.nil (WQ.inNormal ?_)))))))))));refine WQ.then (hK11 _ _ _ (WC.region (WL.z (vI (E:Int)) 19 (WL.y (vI ((E+1:Nat):Int)) 20 (x_ad (((E+1:Nat):Int))) (WL.z (vI ((E+1:Nat):Int)) 8 (WL.nil (WQ.sb [(0,vP pb 0),(2,vI (j:Int)),(7,vI ((sum+(p i1))+(A i1*(cst (cdOf c n) A p Rb+p E)))),(8,vI ((E+1:Nat):Int))] ?_)))))));refine WQ.then (hK6 _ _ _ (by omega) ⟨E+1,R2,(sum+(p i1))+(A i1*(cst (cdOf c n) A p Rb+p E)),rfl,rfl,by omega,hIs2,by omega,by omega,hs2,hbr.2,hH28⟩)
    ·
     rw [if_neg h30] at hsum;refine WL.y (.bool false) 102 (x_eql rfl rfl rfl (dF (h30))) (WL.z (.bool false) 101 (WL.k hK35 ?_));refine WC.no rfl ?_;refine WC.seq fun K36 hK36=>WC.region (WL.y (.bool false) 116 (x_eql rfl rfl rfl (dF (by omega))) (WL.z (.bool false) 115 (WL.k hK36 ?_)));refine WC.no rfl ?_;refine WC.region (WL.z (vI (sum+(p i1))) 75 (WL.z (vI ((cst (cdOf c n) A p Rb)+(p E))) 76 (WL.y (vI ((sum+(p i1))+((cst (cdOf c n) A p Rb)+(p E)))) 77 (x_ad ((sum+(p i1))+((cst (cdOf c n) A p Rb)+(p E)))) (WL.z (vI ((sum+(p i1))+((cst (cdOf c n) A p Rb)+(p E)))) 7 (WL.nil (WQ.inNormal (WQ.then (hK29 _ _ _ (WC.sb [(0,vP pb 0),(2,vI (j:Int)),(7,vI ((sum+(p i1))+((cst (cdOf c n) A p Rb)+(p E)))),(8,vI (i1:Int)),(9,vI (-1)),(10,vI (E:Int)),(12,vI (E:Int)),(13,vI ((cst (cdOf c n) A p Rb)+(p E))),(18,.bool true),(39,.bool false),(52,.bool true),(74,vI (c i1)),(78,.bool false),(101,.bool false),(115,.bool false)] (WC.region (WL.z (vI (E:Int)) 146 ?_)))))))))));refine WL.z (vI (E:Int)) 8 (WL.nil (WQ.inNormal (WQ.then (hK11 _ _ _ (WC.region (WL.z (vI (E:Int)) 19 (WL.y (vI ((E+1:Nat):Int)) 20 (x_ad (((E+1:Nat):Int))) (WL.z (vI ((E+1:Nat):Int)) 8 (WL.nil (WQ.sb [(0,vP pb 0),(2,vI (j:Int)),(7,vI ((sum+(p i1))+((cst (cdOf c n) A p Rb)+(p E)))),(8,vI ((E+1:Nat):Int))] ?_))))))))));refine WQ.then (hK6 _ _ _ (by omega) ⟨E+1,R2,(sum+(p i1))+((cst (cdOf c n) A p Rb)+(p E)),rfl,rfl,by omega,hIs2,by omega,by omega,hs2,hbr.2,hH28⟩)
  | alt i1 a1 E Ra Rb R2 =>
   obtain⟨rfl,hop,he1,hd1,hoa,ho1,h34,h35,hIa,hIb,hIs2⟩:=hIs;have hop:c i1=29∨c i1=33:=hop;have hopn:Ec.opn (c i1)=true:=Ec.opn_iff.2 (by omega);have hEj:=hIs2.le;have hEb:=hIb.le;have hEa:=hIa.le;have hsum:sum+(p i1+(if c i1=29 then mxI (cst (cdOf c n) A p Ra+p a1) (cst (cdOf c n) A p Rb+p E) else cst (cdOf c n) A p Ra+mxI (p a1) (cst (cdOf c n) A p Rb+p E))+cst (cdOf c n) A p R2)=cst (cdOf c n) A p R:=hsum;obtain⟨hs1,hs3,hsa,hsb,hs2⟩:=hsm;have hna:=(cst_bd hp hA Ra _ _ hIa (by omega)).1;have hnb:=(cst_bd hp hA Rb _ _ hIb (by omega)).1;have hpE:=hp E;have hpa:=hp a1;have hmx:=le_mxI (x:=cst (cdOf c n) A p Ra+p a1) (y:=cst (cdOf c n) A p Rb+p E);have hmy:=le_mxI (x:=p a1) (y:=cst (cdOf c n) A p Rb+p E);have hnr:=(cst_bd hp hA R2 _ _ hIs2 (by omega)).1;have hpi:=hp i1;obtain⟨hm1,hm2⟩:=ma_of hc (show i1<n by omega) hopn;have hm1:Ec.maA c A B n (i1:Int)=(a1:Int):=hm1.trans he1;have hm2:Ec.maE c A B n (i1:Int)=(E:Int):=hm2.trans hd1;have hv0:0≤(if c i1=29 then mxI (cst (cdOf c n) A p Ra+p a1) (cst (cdOf c n) A p Rb+p E) else cst (cdOf c n) A p Ra+mxI (p a1) (cst (cdOf c n) A p Rb+p E)):=(by split <;> omega);refine WC.region (WL.z (vI sum) 21 (WL.z (vP pb 0) 22 (WL.z (vP pb 0) 23 (WL.z (vP pb 1) 24 (WL.y (vS gp n n) 25 (x_load rfl rfl Tryz.underlying32 rfl ((HP.oldRange hH8 trivial (hC.pbr 0 (by omega))) 1 _ rfl)) (WL.z (vI (i1:Int)) 26 (WL.y (vP gp i1) 27 (x_ix (i1) (i1) Tryz.underlying32 sz3) (WL.y (vI (p i1)) 28 (x_load rfl rfl Tryz.underlying3 rfl ((HP.oldRange hH8 trivial (hC.row i1 (by omega))) 0 _ rfl)) (WL.y (vI (sum+(p i1))) 29 (x_ad (sum+(p i1))) (WL.z (vI (sum+(p i1))) 7 (WL.nil ?_)))))))))));refine WQ.then (hK12 _ _ _ (WC.sb [(0,vP pb 0),(2,vI (j:Int)),(7,vI (sum+(p i1))),(8,vI (i1:Int)),(18,.bool true)] (WC.seq fun K37 hK37=>WC.seq fun K38 hK38=>WC.region (WL.z (vP pb 0) 30 (WL.z (vP pb 0) 31 (WL.z (vP pb 0) 32 (WL.y (.slice (some ⟨gc,oc,none⟩) n cap) 33 (x_load rfl rfl Tryz.underlying24 rfl ((HP.oldRange hH8 trivial (hC.pbr 0 (by omega))) 0 _ rfl)) (WL.z (vI (i1:Int)) 34 (WL.y (vP gc (oc+i1*3)) 35 (x_ix (i1) (oc+i1*3) Tryz.underlying24 sz51) ?_)))))))))
   refine WL.z (vP gc (oc+i1*3)) 36 (WL.y (vI (c i1)) 37 (x_load rfl rfl Tryz.underlying3 rfl ((HP.oldRange hH8 trivial (hrowc i1 (by omega))) 0 _ rfl)) ?_);refine WL.c 46 #[vI (c i1)] 38 ?_;refine(Opens_at hopn _).mono ?_;rintro e w39 ⟨rfl,rfl⟩;refine⟨_,rfl,?_⟩;refine WL.z (.bool false) 39 (WL.k hK38 (WC.sb [(0,vP pb 0),(2,vI (j:Int)),(7,vI (sum+(p i1))),(8,vI (i1:Int)),(18,.bool true),(39,.bool false)] ?_));refine WC.no rfl ?_;refine WC.skip (WQ.then (hK37 _ _ _ (WC.seq fun K40 hK40=>WC.region (WL.z (vP pb 0) 41 (WL.z (vP pb 0) 42 (WL.z (vP pb 0) 43 (WL.y (.slice (some ⟨gc,oc,none⟩) n cap) 44 (x_load rfl rfl Tryz.underlying24 rfl ((HP.oldRange hH8 trivial (hC.pbr 0 (by omega))) 0 _ rfl)) (WL.z (vI (i1:Int)) 45 ?_))))))));refine WL.c 47 #[.slice (some ⟨gc,oc,none⟩) n cap,vI (i1:Int)] 46 ?_;refine(Match_at hm1 hm2 _ (hC.below (HP.below hH8)).code (by omega) (by omega)).mono ?_;rintro e w41 ⟨rfl,hb42⟩;refine⟨_,rfl,?_⟩;have hH43:=HP.call hH8 hb42;refine WL.z (.tuple #[vI (a1:Int),vI (E:Int),vI (Ec.maF c A B n (i1:Int))]) 40 (WL.z (vI (a1:Int)) 47 (WL.z (vI (E:Int)) 48 (WL.z (vI (Ec.maF c A B n (i1:Int))) 49 (WL.z (vI (a1:Int)) 9 (WL.z (vI (E:Int)) 10 (WL.z (vI (Ec.maF c A B n (i1:Int))) 11 (WL.k hK40 (WC.sb [(0,vP pb 0),(2,vI (j:Int)),(7,vI (sum+(p i1))),(8,vI (i1:Int)),(9,vI (a1:Int)),(10,vI (E:Int)),(18,.bool true),(39,.bool false)] (WC.seq fun K44 hK44=>?_)))))))));refine WC.region (WL.z (vI (a1:Int)) 50 (WL.z (vI (a1:Int)) 12 (WL.k hK44 (WC.seq fun K45 hK45=>WC.seq fun K46 hK46=>WC.region (WL.z (vI (a1:Int)) 51 (WL.y (.bool false) 52 (x_lss rfl rfl rfl (dF (by omega))) (WL.nil ?_)))))));refine WQ.then (hK46 _ _ _ (WC.no rfl ?_));refine WC.skip (WQ.then (hK45 _ _ _ (WC.seq fun K47 hK47=>?_)));refine WC.confG (γ:=Unit) [(52,.bool false),(51,vI (a1:Int)),(12,vI (a1:Int)),(50,vI (a1:Int)),(0,vP pb 0),(2,vI (j:Int)),(7,vI (sum+(p i1))),(8,vI (i1:Int)),(9,vI (a1:Int)),(10,vI (E:Int)),(18,.bool true),(39,.bool false)] (fun gy=>[vP pb 0,vI (i1:Int),vI ((i1+1:Nat):Int),vI (a1:Int),vI (cst (cdOf c n) A p Ra),vP pb 0,vP pb 0,vP pb 1,vS gp n n,vI (a1:Int),vP gp a1,vI (p a1),vI ((cst (cdOf c n) A p Ra)+(p a1)),vI ((cst (cdOf c n) A p Ra)+(p a1))]) (fun gy D wz=>HP Tr w wz []) () (by kernel_rfl) ⟨rfl,rfl,rfl,rfl,rfl,rfl,rfl,rfl,rfl,rfl,rfl,rfl,trivial⟩ (by kernel_rfl) (by kernel_rfl) (by kernel_rfl) (fun _=>rfl) (by kernel_rfl) (HP.drew hH43) ?_ ?_
   ·
    refine AllOk.cons ?o0 (AllOk.cons ?o1 (AllOk.cons ?o2 (AllOk.cons ?o3 (AllOk.cons ?o4 (AllOk.cons ?o5 (AllOk.cons ?o6 (AllOk.cons ?o7 (AllOk.cons ?o8 (AllOk.cons ?o9 (AllOk.cons ?o10 (AllOk.cons ?o11 (AllOk.cons ?o12 (AllOk.cons ?o13 (AllOk.nil _))))))))))))))
    case o0 =>
     intro gy D wz hDi hdep hclo hW;exact cfv gy wz (by kernel_rfl) hW
    case o1 =>
     intro gy D wz hDi hdep hclo hW;exact cfv gy wz (by kernel_rfl) hW
    case o2 =>
     intro gy D wz hDi hdep hclo hW;exact cfv gy wz (x_ad (((i1+1:Nat):Int))) hW
    case o3 =>
     intro gy D wz hDi hdep hclo hW;exact cfv gy wz (by kernel_rfl) hW
    case o4 =>
     intro gy D wz hDi hdep hclo hW;have hW2:=hW;exact .inl ⟨rfl,rfl,.inr (.inr ⟨27,#[vP pb 0,vI ((i1+1:Nat):Int),vI (a1:Int)],by kernel_rfl,(hbr.1.1 _ (hC.below (HP.below hW))).mono fun e w2 h=>⟨gy,fun _ _=>rfl,h.1,HP.call hW h.2⟩⟩)⟩
    case o5 =>
     intro gy D wz hDi hdep hclo hW;exact cfv gy wz (by kernel_rfl) hW
    case o6 =>
     intro gy D wz hDi hdep hclo hW;exact cfv gy wz (by kernel_rfl) hW
    case o7 =>
     intro gy D wz hDi hdep hclo hW;exact cfv gy wz (by kernel_rfl) hW
    case o8 =>
     intro gy D wz hDi hdep hclo hW;exact cfv gy wz (x_load rfl rfl Tryz.underlying32 rfl ((HP.oldRange hW trivial (hC.pbr 0 (by omega))) 1 _ rfl)) hW
    case o9 =>
     intro gy D wz hDi hdep hclo hW;exact cfv gy wz (by kernel_rfl) hW
    case o10 =>
     intro gy D wz hDi hdep hclo hW;exact cfv gy wz (x_ix (a1) (a1) Tryz.underlying32 sz3) hW
    case o11 =>
     intro gy D wz hDi hdep hclo hW;exact cfv gy wz (x_load rfl rfl Tryz.underlying3 rfl ((HP.oldRange hW trivial (hC.row a1 (by omega))) 0 _ rfl)) hW
    case o12 =>
     intro gy D wz hDi hdep hclo hW;exact cfv gy wz (x_ad ((cst (cdOf c n) A p Ra)+(p a1))) hW
    case o13 =>
     intro gy D wz hDi hdep hclo hW;exact cfv gy wz (by kernel_rfl) hW
   rintro gy D w48 hall hH49;clear hall;refine WQ.sb [(0,vP pb 0),(2,vI (j:Int)),(7,vI (sum+(p i1))),(8,vI (i1:Int)),(9,vI (a1:Int)),(10,vI (E:Int)),(12,vI (a1:Int)),(13,vI ((cst (cdOf c n) A p Ra)+(p a1))),(18,.bool true),(39,.bool false),(52,.bool false)] (WQ.then (hK47 _ _ _ (WC.seq fun K50 hK50=>WC.seq fun K51 hK51=>WC.region (WL.z (vP pb 0) 67 (WL.z (vP pb 0) 68 (WL.z (vP pb 0) 69 (WL.y (.slice (some ⟨gc,oc,none⟩) n cap) 70 (x_load rfl rfl Tryz.underlying24 rfl ((HP.oldRange hH49 trivial (hC.pbr 0 (by omega))) 0 _ rfl)) (WL.z (vI (i1:Int)) 71 (WL.y (vP gc (oc+i1*3)) 72 (x_ix (i1) (oc+i1*3) Tryz.underlying24 sz51) ?_)))))))));refine WL.z (vP gc (oc+i1*3)) 73 (WL.y (vI (c i1)) 74 (x_load rfl rfl Tryz.underlying3 rfl ((HP.oldRange hH49 trivial (hrowc i1 (by omega))) 0 _ rfl)) (WL.k hK51 (WC.sb [(0,vP pb 0),(2,vI (j:Int)),(7,vI (sum+(p i1))),(8,vI (i1:Int)),(9,vI (a1:Int)),(10,vI (E:Int)),(12,vI (a1:Int)),(13,vI ((cst (cdOf c n) A p Ra)+(p a1))),(18,.bool true),(39,.bool false),(52,.bool false),(74,vI (c i1))] (WC.block (WC.seq fun K52 hK52=>WC.region ?_)))));by_cases h29:c i1=29
   ·
    rw [if_pos h29] at hsum;refine WL.y (.bool true) 79 (x_eql rfl rfl rfl (dT (h29))) (WL.z (.bool true) 78 (WL.k hK52 ?_));refine WC.yes rfl ?_;refine WC.seq fun K53 hK53=>WC.region (WL.z (vP pb 0) 80 (WL.z (vP pb 0) 81 (WL.z (vP pb 1) 82 (WL.y (vS gp n n) 83 (x_load rfl rfl Tryz.underlying32 rfl ((HP.oldRange hH49 trivial (hC.pbr 0 (by omega))) 1 _ rfl)) (WL.z (vI (E:Int)) 84 (WL.y (vP gp E) 85 (x_ix (E) (E) Tryz.underlying32 sz3) (WL.y (vI (p E)) 86 (x_load rfl rfl Tryz.underlying3 rfl ((HP.oldRange hH49 trivial (hC.row E (by omega))) 0 _ rfl)) (WL.z (vI (p E)) 14 (WL.nil (WQ.then ?_))))))))));refine hK53 _ _ _ (WC.sb [(0,vP pb 0),(2,vI (j:Int)),(7,vI (sum+(p i1))),(8,vI (i1:Int)),(9,vI (a1:Int)),(10,vI (E:Int)),(12,vI (a1:Int)),(13,vI ((cst (cdOf c n) A p Ra)+(p a1))),(14,vI (p E)),(18,.bool true),(39,.bool false),(52,.bool false),(74,vI (c i1)),(78,.bool true)] (WC.seq fun K54 hK54=>WC.seq fun K55 hK55=>WC.region (WL.z (vI (a1:Int)) 87 (WL.y (.bool true) 88 (x_geq rfl rfl rfl (dT (by omega))) (WL.k hK55 ?_)))));refine WC.yes rfl ?_;refine WC.region (WL.z (vI (p E)) 89 (WL.z (vP pb 0) 90 (WL.z (vI (a1:Int)) 91 (WL.y (vI ((a1+1:Nat):Int)) 92 (x_ad (((a1+1:Nat):Int))) (WL.z (vI (E:Int)) 93 ?_)))));refine WL.c 27 #[vP pb 0,vI ((a1+1:Nat):Int),vI (E:Int)] 94 ?_;refine(hbr.1.2 _ (hC.below (HP.below hH49))).mono ?_;rintro e w56 ⟨rfl,hb57⟩;refine⟨_,rfl,?_⟩;have hH58:=HP.call hH49 hb57;refine WL.y (vI (cst (cdOf c n) A p Rb+p E)) 95 (x_ad (cst (cdOf c n) A p Rb+p E)) (WL.z (vI (cst (cdOf c n) A p Rb+p E)) 14 (WL.k hK54 (WC.sb [(0,vP pb 0),(2,vI (j:Int)),(7,vI (sum+(p i1))),(8,vI (i1:Int)),(9,vI (a1:Int)),(10,vI (E:Int)),(12,vI (a1:Int)),(13,vI ((cst (cdOf c n) A p Ra)+(p a1))),(14,vI (cst (cdOf c n) A p Rb+p E)),(18,.bool true),(39,.bool false),(52,.bool false),(74,vI (c i1)),(78,.bool true),(88,.bool true)] (WC.region (WL.z (vI (sum+(p i1))) 96 (WL.z (vI ((cst (cdOf c n) A p Ra)+(p a1))) 97 (WL.z (vI (cst (cdOf c n) A p Rb+p E)) 98 (WL.y (vI (mxI (cst (cdOf c n) A p Ra+p a1) (cst (cdOf c n) A p Rb+p E))) 99 (x_max (Z:=mxI (cst (cdOf c n) A p Ra+p a1) (cst (cdOf c n) A p Rb+p E)) (t:=0) rfl rfl rfl rfl) ?_))))))))
    refine WL.y (vI ((sum+(p i1))+(mxI (cst (cdOf c n) A p Ra+p a1) (cst (cdOf c n) A p Rb+p E)))) 100 (x_ad ((sum+(p i1))+(mxI (cst (cdOf c n) A p Ra+p a1) (cst (cdOf c n) A p Rb+p E)))) (WL.z (vI ((sum+(p i1))+(mxI (cst (cdOf c n) A p Ra+p a1) (cst (cdOf c n) A p Rb+p E)))) 7 (WL.nil (WQ.inNormal (WQ.then (hK50 _ _ _ (WC.sb [(0,vP pb 0),(2,vI (j:Int)),(7,vI ((sum+(p i1))+(mxI (cst (cdOf c n) A p Ra+p a1) (cst (cdOf c n) A p Rb+p E)))),(8,vI (i1:Int)),(9,vI (a1:Int)),(10,vI (E:Int)),(12,vI (a1:Int)),(13,vI ((cst (cdOf c n) A p Ra)+(p a1))),(14,vI (cst (cdOf c n) A p Rb+p E)),(18,.bool true),(39,.bool false),(52,.bool false),(74,vI (c i1)),(78,.bool true),(88,.bool true)] ?_))))));refine WC.region (WL.z (vI (E:Int)) 146 (WL.z (vI (E:Int)) 8 (WL.nil (WQ.inNormal (WQ.then (hK11 _ _ _ (WC.region (WL.z (vI (E:Int)) 19 (WL.y (vI ((E+1:Nat):Int)) 20 (x_ad (((E+1:Nat):Int))) (WL.z (vI ((E+1:Nat):Int)) 8 (WL.nil ?_)))))))))));refine WQ.sb [(0,vP pb 0),(2,vI (j:Int)),(7,vI ((sum+(p i1))+(mxI (cst (cdOf c n) A p Ra+p a1) (cst (cdOf c n) A p Rb+p E)))),(8,vI ((E+1:Nat):Int))] ?_;refine WQ.then (hK6 _ _ _ (by omega) ⟨E+1,R2,(sum+(p i1))+(mxI (cst (cdOf c n) A p Ra+p a1) (cst (cdOf c n) A p Rb+p E)),rfl,rfl,by omega,hIs2,by omega,by omega,hs2,hbr.2,hH58⟩)
   ·
    rw [if_neg h29] at hsum;refine WL.y (.bool false) 79 (x_eql rfl rfl rfl (dF (h29))) (WL.z (.bool false) 78 (WL.k hK52 ?_));refine WC.no rfl ?_;refine WC.seq fun K59 hK59=>WC.region (WL.y (.bool false) 102 (x_eql rfl rfl rfl (dF (by omega))) (WL.z (.bool false) 101 (WL.k hK59 ?_)));refine WC.no rfl ?_;refine WC.seq fun K60 hK60=>WC.region (WL.y (.bool true) 116 (x_eql rfl rfl rfl (dT (by omega))) (WL.z (.bool true) 115 (WL.k hK60 ?_)));refine WC.yes rfl ?_;refine WC.confH (γ:=Unit) [(115,.bool true),(116,.bool true),(101,.bool false),(102,.bool false),(78,.bool false),(79,.bool false),(0,vP pb 0),(2,vI (j:Int)),(7,vI (sum+(p i1))),(8,vI (i1:Int)),(9,vI (a1:Int)),(10,vI (E:Int)),(12,vI (a1:Int)),(13,vI ((cst (cdOf c n) A p Ra)+(p a1))),(18,.bool true),(39,.bool false),(52,.bool false),(74,vI (c i1))] (fun gy=>[vI (sum+(p i1)),vP pb 0,vI (i1:Int),vI ((i1+1:Nat):Int),vI (a1:Int),vI (cst (cdOf c n) A p Ra),vP pb 0,vP pb 0,vP pb 1,vS gp n n,vI (a1:Int),vP gp a1,vI (p a1),vP pb 0,vI (a1:Int),vI ((a1+1:Nat):Int),vI (E:Int),vI (cst (cdOf c n) A p Rb),vP pb 0,vP pb 0,vP pb 1,vS gp n n,vI (E:Int),vP gp E,vI (p E),vI ((cst (cdOf c n) A p Rb)+(p E)),vI (mxI (p a1) (cst (cdOf c n) A p Rb+p E)),vI ((cst (cdOf c n) A p Ra)+(mxI (p a1) (cst (cdOf c n) A p Rb+p E))),vI ((sum+(p i1))+((cst (cdOf c n) A p Ra)+(mxI (p a1) (cst (cdOf c n) A p Rb+p E)))),vI ((sum+(p i1))+((cst (cdOf c n) A p Ra)+(mxI (p a1) (cst (cdOf c n) A p Rb+p E))))]) (fun gy D wz=>HP Tr w wz []) () (by kernel_rfl) ⟨rfl,rfl,rfl,rfl,rfl,rfl,rfl,rfl,rfl,rfl,rfl,rfl,rfl,rfl,rfl,rfl,rfl,rfl,trivial⟩ (by kernel_rfl) (by kernel_rfl) (by kernel_rfl) (fun _=>rfl) (by kernel_rfl) (HP.drew hH49) ?_ ?_
    ·
     refine AllOk.cons ?o0 (AllOk.cons ?o1 (AllOk.cons ?o2 (AllOk.cons ?o3 (AllOk.cons ?o4 (AllOk.cons ?o5 (AllOk.cons ?o6 (AllOk.cons ?o7 (AllOk.cons ?o8 (AllOk.cons ?o9 (AllOk.cons ?o10 (AllOk.cons ?o11 (AllOk.cons ?o12 (AllOk.cons ?o13 (AllOk.cons ?o14 (AllOk.cons ?o15 (AllOk.cons ?o16 (AllOk.cons ?o17 (AllOk.cons ?o18 (AllOk.cons ?o19 (AllOk.cons ?o20 (AllOk.cons ?o21 (AllOk.cons ?o22 (AllOk.cons ?o23 (AllOk.cons ?o24 (AllOk.cons ?o25 (AllOk.cons ?o26 (AllOk.cons ?o27 (AllOk.cons ?o28 (AllOk.cons ?o29 (AllOk.nil _))))))))))))))))))))))))))))))
     case o0 =>
      intro gy D wz hDi hdep hclo hW;exact cfv gy wz (by kernel_rfl) hW
     case o1 =>
      intro gy D wz hDi hdep hclo hW;exact cfv gy wz (by kernel_rfl) hW
     case o2 =>
      intro gy D wz hDi hdep hclo hW;exact cfv gy wz (by kernel_rfl) hW
     case o3 =>
      intro gy D wz hDi hdep hclo hW;exact cfv gy wz (x_ad (((i1+1:Nat):Int))) hW
     case o4 =>
      intro gy D wz hDi hdep hclo hW;exact cfv gy wz (by kernel_rfl) hW
     case o5 =>
      intro gy D wz hDi hdep hclo hW;have hW2:=hW;exact .inl ⟨rfl,rfl,.inr (.inr ⟨27,#[vP pb 0,vI ((i1+1:Nat):Int),vI (a1:Int)],by kernel_rfl,(hbr.1.1 _ (hC.below (HP.below hW))).mono fun e w2 h=>⟨gy,fun _ _=>rfl,h.1,HP.call hW h.2⟩⟩)⟩
     case o6 =>
      intro gy D wz hDi hdep hclo hW;exact cfv gy wz (by kernel_rfl) hW
     case o7 =>
      intro gy D wz hDi hdep hclo hW;exact cfv gy wz (by kernel_rfl) hW
     case o8 =>
      intro gy D wz hDi hdep hclo hW;exact cfv gy wz (by kernel_rfl) hW
     case o9 =>
      intro gy D wz hDi hdep hclo hW;exact cfv gy wz (x_load rfl rfl Tryz.underlying32 rfl ((HP.oldRange hW trivial (hC.pbr 0 (by omega))) 1 _ rfl)) hW
     case o10 =>
      intro gy D wz hDi hdep hclo hW;exact cfv gy wz (by kernel_rfl) hW
     case o11 =>
      intro gy D wz hDi hdep hclo hW;exact cfv gy wz (x_ix (a1) (a1) Tryz.underlying32 sz3) hW
     case o12 =>
      intro gy D wz hDi hdep hclo hW;exact cfv gy wz (x_load rfl rfl Tryz.underlying3 rfl ((HP.oldRange hW trivial (hC.row a1 (by omega))) 0 _ rfl)) hW
     case o13 =>
      intro gy D wz hDi hdep hclo hW;exact cfv gy wz (by kernel_rfl) hW
     case o14 =>
      intro gy D wz hDi hdep hclo hW;exact cfv gy wz (by kernel_rfl) hW
     case o15 =>
      intro gy D wz hDi hdep hclo hW;exact cfv gy wz (x_ad (((a1+1:Nat):Int))) hW
     case o16 =>
      intro gy D wz hDi hdep hclo hW;exact cfv gy wz (by kernel_rfl) hW
     case o17 =>
      intro gy D wz hDi hdep hclo hW;have hW2:=hW;exact .inl ⟨rfl,rfl,.inr (.inr ⟨27,#[vP pb 0,vI ((a1+1:Nat):Int),vI (E:Int)],by kernel_rfl,(hbr.1.2 _ (hC.below (HP.below hW))).mono fun e w2 h=>⟨gy,fun _ _=>rfl,h.1,HP.call hW h.2⟩⟩)⟩
     case o18 =>
      intro gy D wz hDi hdep hclo hW;exact cfv gy wz (by kernel_rfl) hW
     case o19 =>
      intro gy D wz hDi hdep hclo hW;exact cfv gy wz (by kernel_rfl) hW
     case o20 =>
      intro gy D wz hDi hdep hclo hW;exact cfv gy wz (by kernel_rfl) hW
     case o21 =>
      intro gy D wz hDi hdep hclo hW;exact cfv gy wz (x_load rfl rfl Tryz.underlying32 rfl ((HP.oldRange hW trivial (hC.pbr 0 (by omega))) 1 _ rfl)) hW
     case o22 =>
      intro gy D wz hDi hdep hclo hW;exact cfv gy wz (by kernel_rfl) hW
     case o23 =>
      intro gy D wz hDi hdep hclo hW;exact cfv gy wz (x_ix (E) (E) Tryz.underlying32 sz3) hW
     case o24 =>
      intro gy D wz hDi hdep hclo hW;exact cfv gy wz (x_load rfl rfl Tryz.underlying3 rfl ((HP.oldRange hW trivial (hC.row E (by omega))) 0 _ rfl)) hW
     case o25 =>
      intro gy D wz hDi hdep hclo hW;exact cfv gy wz (x_ad ((cst (cdOf c n) A p Rb)+(p E))) hW
     case o26 =>
      intro gy D wz hDi hdep hclo hW;exact cfv gy wz (x_max (Z:=mxI (p a1) (cst (cdOf c n) A p Rb+p E)) (t:=0) rfl rfl rfl rfl) hW
     case o27 =>
      intro gy D wz hDi hdep hclo hW;exact cfv gy wz (x_ad ((cst (cdOf c n) A p Ra)+(mxI (p a1) (cst (cdOf c n) A p Rb+p E)))) hW
     case o28 =>
      intro gy D wz hDi hdep hclo hW;exact cfv gy wz (x_add (Z:=(sum+(p i1))+((cst (cdOf c n) A p Ra)+(mxI (p a1) (cst (cdOf c n) A p Rb+p E)))) rfl rfl rfl (by omega) (by omega) (by omega)) hW
     case o29 =>
      intro gy D wz hDi hdep hclo hW;exact cfv gy wz (by kernel_rfl) hW
    rintro gy D w61 hall hH62;clear hall;refine WQ.sb [(0,vP pb 0),(2,vI (j:Int)),(7,vI ((sum+(p i1))+((cst (cdOf c n) A p Ra)+(mxI (p a1) (cst (cdOf c n) A p Rb+p E))))),(8,vI (i1:Int)),(9,vI (a1:Int)),(10,vI (E:Int)),(12,vI (a1:Int)),(13,vI ((cst (cdOf c n) A p Ra)+(p a1))),(18,.bool true),(39,.bool false),(52,.bool false),(74,vI (c i1)),(78,.bool false),(101,.bool false),(115,.bool true)] (WQ.inNormal (WQ.then (hK50 _ _ _ (WC.region (WL.z (vI (E:Int)) 146 (WL.z (vI (E:Int)) 8 (WL.nil (WQ.inNormal (WQ.then (hK11 _ _ _ (WC.region ?_)))))))))));refine WL.z (vI (E:Int)) 19 (WL.y (vI ((E+1:Nat):Int)) 20 (x_ad (((E+1:Nat):Int))) (WL.z (vI ((E+1:Nat):Int)) 8 (WL.nil (WQ.sb [(0,vP pb 0),(2,vI (j:Int)),(7,vI ((sum+(p i1))+((cst (cdOf c n) A p Ra)+(mxI (p a1) (cst (cdOf c n) A p Rb+p E))))),(8,vI ((E+1:Nat):Int))] ?_))));refine WQ.then (hK6 _ _ _ (by omega) ⟨E+1,R2,(sum+(p i1))+((cst (cdOf c n) A p Ra)+(mxI (p a1) (cst (cdOf c n) A p Rb+p E))),rfl,rfl,by omega,hIs2,by omega,by omega,hs2,hbr.2,hH62⟩)
 ·
  refine WL.y (.bool false) 18 (x_lss rfl rfl rfl (dF (hlt))) (WL.k hK10 ?_);refine WC.no rfl ?_;refine WC.exit (WQ.thenExit (WQ.thenExit (WQ.inExit (WQ.then (hK4 _ _ _ (WC.seq fun K63 hK63=>WC.region (WL.z (vI sum) 147 (WL.z (vI sum) 6 (WL.nil (WQ.then ?_))))))))));refine hK63 _ _ _ (WC.ret ?_);refine WQ.ret1 6 rfl rfl ?_;cases R1 with
  | nil=>exact⟨by rw [← hsum];simp [cst],HP.below hH8⟩
  | one i1 R2=>have q9:=hIs.2.2.le;have q8:=hIs.1;omega
  | plain i1 E Rb R2=>have q9:=hIs.2.2.2.2.2.2.2.le;have q7:=hIs.2.2.2.2.2.2.1.le;have q8:=hIs.1;omega
  | alt i1 a1 E Ra Rb R2=>have q9:=hIs.2.2.2.2.2.2.2.2.2.2.le;have q7:=hIs.2.2.2.2.2.2.2.2.2.1.le;have q6:=hIs.2.2.2.2.2.2.2.2.1.le;have q8:=hIs.1;omega
end Ca
end Go.Proofs.YtmjnakhpekbenaaGreat
namespace Go.Proofs.YtmjnakhpekbenaaGreat
open Go.RowKit Fw
namespace Ca
section
open Ec
variable {c A B : Nat → Int} {n : Nat}
theorem op_of {i x:Nat} (hc:chk c A B false n=0) (hi:i<n) (ho:(shD c n).o i=(x:Int)):opO c A B n (i:Int)=(x:Int):=by
  have h1:idE c A B n (i:Int)=0:=idE_in hc ⟨by omega,by omega⟩;have h2:opF c A B n (i:Int)=0:=(by unfold opF;rw [h1,Int.toNat_natCast,ho];simp);unfold opO;rw [if_pos h2,Int.toNat_natCast,ho]
theorem at34 {i:Nat} (hc:chk c A B false n=0) (hi:i<n) (h:c i=34):∃ x E:Nat,x<n∧opO c A B n (i:Int)=(x:Int)∧maA c A B n (x:Int)=(i:Int)∧maE c A B n (x:Int)=(E:Int)∧E<n∧Fl.ways (cdOf c n) i=[(i,E+1)]:=by
  have Bb:=chk_bal hc;obtain⟨si,hsi⟩:=shp_ex Bb (k:=i) (by omega);obtain⟨r,x,hl,he,ho,hx⟩:=else_at Bb hi h hsi;have hxi:x<i:=(inv_of i si hsi).lt x (by rw [hl];simp);have hop:opn (c x)=true:=opn_iff.2 (by omega);obtain⟨h1,h2,h3⟩:=d_range Bb (show x<n by omega) hop;obtain⟨m1,m2⟩:=ma_of hc (show x<n by omega) hop;obtain⟨E,hE⟩:∃ E:Nat,(shD c n).d x=(E:Int):=⟨((shD c n).d x).toNat,by omega⟩;exact⟨x,E,by omega,op_of hc hi ho,m1.trans he,m2.trans hE,by omega,Fl.ways_else (C:=cdOf c n) (k:=x) h ho hE⟩
theorem at_op {i:Nat} (hc:chk c A B false n=0) (hi:i<n) (h:opn (c i)=true):∃ E:Nat,i<E∧E<n∧maE c A B n (i:Int)=(E:Int)∧(shD c n).d i=(E:Int) ∧
    ((maA c A B n (i:Int)=-1∧(shD c n).e i=-1∧c i≠33)∨∃ a:Nat,i<a∧a<n∧maA c A B n (i:Int)=(a:Int)∧(shD c n).e i=(a:Int)∧(c i=29∨c i=33)):=by
  have Bb:=chk_bal hc;obtain⟨si,hsi⟩:=shp_ex Bb (k:=i) (by omega);obtain⟨E,sE,s1,hd,h1,h2,h3,hsE,-,-,-,-,htry⟩:=end_of Bb hi h hsi;obtain⟨m1,m2⟩:=ma_of hc hi h;refine⟨E,h1,h2,m2.trans hd,hd,?_⟩;rcases (inv_of n _ Bb.hs).e i hi with q | ⟨q1,q2,q3⟩
  · refine .inl ⟨m1.trans q, q, fun q9 => htry ⟨q9, ?_⟩⟩
    rcases (frz_at hsE Bb.hs (by omega)).e i (by omega) with q2 | ⟨q2,-⟩
    · rw [← q2,q];decide
    · exact q2
  · obtain ⟨a, ha⟩ : ∃ a : Nat, (shD c n).e i = (a : Int) := ⟨((shD c n).e i).toNat, by omega⟩
    obtain⟨g1,g2,-,-,-,-,-,-,-,-,g3⟩:=else_of Bb hi h hsi ha;exact .inr ⟨a,g1,g2,m1.trans ha,ha,g3⟩
end
theorem rOpener_at {p:Option Addr} {n cap:Nat} {c A B:Nat→Int} {i:Nat} {x:Int} (h1:Ec.opO c A B n (i:Int)=x) (w:World) (hIn:Ec.InC w p n c A B) (hn:n≤400) (hi:i<n) :
    Calls Tryz.prog 50 #[.slice p n cap,vI (i:Int)] w fun e w'=>e=.returned (.tuple #[vI x,vI (Ec.opF c A B n (i:Int))])∧Below w.heap.size w w':=h1 ▸ Ec.rOpener_any p n cap c A B (i:Int) w hIn hn (by omega) (by omega)
end Ca
end Go.Proofs.YtmjnakhpekbenaaGreat
namespace Go.Proofs.YtmjnakhpekbenaaGreat
open Go.RowKit
namespace Fw
section
variable {P : Program} {ops : Array Oper} {Q : Exit → Act → World → Prop} {rest : List Oper} {n : Nat} {l : List (Nat × Value)} {w w0 : World} {S : Nat → Prop} {H H2 : List Ent}
theorem x_sliceAny {t e s m cap:Nat} {a:Option Addr} {I:Int} (i:Nat) (w:World) (hu:P.underlying t=some (.slice e)) (hs:(P.info? e).map (·.size)=some s) (hI:I=(i:Int)) (hle:i≤m) (hmc:m≤cap) :
    ∃ v,∀ {ρ:Operand→Value} {o:Oper} {x lo:Operand},o.op=.slice t x (some lo) none none→ρ x=.slice a m cap→ρ lo=.int .i64 I→(execOp ρ o).run P w=.ok (.value v) w:=by
  subst hI;obtain⟨inf,hi,rfl⟩:=Option.map_eq_some_iff.1 hs;have hz:(sizeOf e).run P w=.ok inf.size w:=(by simp [sizeOf,typeInfo,hi]);refine⟨.slice (if cap=i then a else a.map (·.add (i*inf.size))) (m-i) (cap-i),fun ho hx hy=>?_⟩;unfold execOp;rw [ho];simp [hx,hy,Instr.sliceAt,Instr.slice,run_underlying hu,Instr.sliceBounds,Instr.sliceBound,asIntOf,hle,hz,hmc]
theorem run_copy_rows (w:World) (dT sT ty elem sz:Nat) (g o dLen dCap:Nat) (a:Addr) (sLen sCap:Nat) (cur:Array Value) (t:TypeId) (cs:List Value)
    (hu:P.underlying dT=some (.slice elem)) (hs:(P.info? elem).map (·.size)=some sz)
    (hg:w.heap[g]?=some (.cells cur t (0,0))) (hn:cs.length=Nat.min sLen dLen*sz)
    (hsrc:∀ j v,cs[j]?=some v→w.cell? (a.add j)=some v) (hfit:o+cs.length≤cur.size) (h1:∀ v∈cs,v.oneCell'=true) :
    (Builtin.copy_ #[dT,sT] ty #[.slice (some ⟨g,o,none⟩) dLen dCap,.slice (some a) sLen sCap]).run P w =
      .ok (goInt (Nat.min sLen dLen)) (w.setRow g (cur.toList.take o++cs++cur.toList.drop (o+cs.length)).toArray):=by
  have hl:=run_loadCells_list (P:=P) w a cs hsrc;have hst:=run_storeCells_at P g o t cs 0 cur w hg (by simpa using hfit) h1;obtain⟨i,hq,rfl⟩:=Option.map_eq_some_iff.1 hs;simp [Builtin.copy_,run_underlying hu,Builtin.lenOf,Builtin.firstCells,sizeOf,typeInfo,hq,← hn,hl,hst]
theorem WL.copyCel {o:Oper} {t t2 e sz:Nat} {x y:Operand} {g off m cp ms cps:Nat} {a:Addr} {cur:Array Value} {T:TypeId} (i:Nat) (hH:HP S w0 w H) (cs:List Value) (d:Nat) (hd:o.dst=some d) (hn:d<n) (hw:wants ops l o=some true)
    (ho:o.op=.call { callee:=.builtin .copy,args:=#[x,y],argTypes:=#[t,t2] }) (hx:ev l x=some (.slice (some ⟨g,off,none⟩) m cp)) (hy:ev l y=some (.slice (some a) ms cps))
    (ht:P.underlying t=some (.slice e)) (hs:(P.info? e).map (·.size)=some sz) (hi:H[i]?=some (.cel g cur T)) (hcs:cs.length=Nat.min ms m*sz)
    (hsrc:∀ j v,cs[j]?=some v→w.cell? (a.add j)=some v) (hfit:off+cs.length≤cur.size) (h1:∀ v∈cs,v.oneCell'=true)
    (h:∀ w2,HP S w0 w2 (H.set i (.cel g (cur.toList.take off++cs++cur.toList.drop (off+cs.length)).toArray T))→WL P ops Q rest n ((d,goInt (Nat.min ms m))::l) w2):WL P ops Q (o::rest) n l w:=by
  intro b hb;refine wpList_step fun K hK=>?_;rw [if_pos (wants_spec hb hw)];unfold Oper.wp;have hr:=run_copy_rows (P:=P) w t t2 o.type e sz g off m cp a ms cps cur T cs ht hs (hH.get i hi) hcs hsrc hfit h1;have hx2:(execOp b.eval o).run P w=.ok (.value (goInt (Nat.min ms m))) (w.setRow g (cur.toList.take off++cs++cur.toList.drop (off+cs.length)).toArray):=by
    unfold execOp;rw [ho];simp [resolve,invoke,builtin,hb.ev hx,hb.ev hy,hr]
  rw [hx2,Oper.upon_value,hd];refine hK _ _ (h _ ?_ _ (hb.put hn _));exact hH.change i hi rfl rfl rfl (by simp) (fun k _ hne=>setRow_other w g k _ fun q=>hne (by rw [q];rfl)) (setRow_heap w g cur _ T (0,0) (hH.get i hi)) (fun b' hb'=>.inl hb')
theorem WL.growZeros {o:Oper} {t tn e:TypeId} {inf:TypeInfo} {z:Value} {sz by':Nat} {x y:Operand} {g i k cap:Nat} {K:Int} {cur:Array Value} (j:Nat) (hH:HP S w0 w H) (d:Nat) (hd:o.dst=some d) (hn:d<n) (hw:wants ops l o=some true)
    (ho:o.op=.call { callee:=.builtin .append,args:=#[x,y],argTypes:=#[t,tn] }) (hx:ev l x=some (.slice (some ⟨g,0,none⟩) i cap)) (hy:ev l y=some (.int .i64 K)) (hK:K=(k:Int))
    (ht:P.underlying t=some (.slice e)) (htn:P.underlying tn=some (.int .i64)) (hi':P.info? e=some inf) (hz:inf.zero=some z) (hsz:inf.size=sz) (hby:inf.bytes=by') (hzs:z.cells.size=sz) (h0:0<sz)
    (hj:H[j]?=some (.cel g cur e)) (hfit:i*sz≤cur.size) (hk:0<k) (hg:cap<i+k) (h63:i+k≤9223372036854775807) (hb:(i+k)*by'≤140737488355328)
    (h:∀ (g' c':Nat) (cur':Array Value) w2,HP S w0 w2 (H++[.cel g' cur' e])→cur'.size=c'*sz→i+k≤c'→c'≤maxLen→cur'.toList.take (i*sz)=cur.toList.take (i*sz)→WL P ops Q rest n ((d,.slice (some ⟨g',0,none⟩) (i+k) c')::l) w2):WL P ops Q (o::rest) n l w:=by
  intro b hfr;refine wpList_step fun K' hK'=>?_;rw [if_pos (wants_spec hfr hw)];unfold Oper.wp;subst hK;have hold:(Builtin.firstCells inf.size i (.slice (some ⟨g,0,none⟩) i cap)).run P w.drew=.ok (cur.toList.take (i*sz)).toArray w.drew:=by
    rw [hsz];refine run_firstCells_some w.drew sz i ⟨g,0,none⟩ i cap (cur.toList.take (i*sz)) (by rw [List.length_take];simp;omega) (fun q v hq=>?_);have hq2:cur[q]?=some v:=by
      rw [List.getElem?_take] at hq;split at hq
      · simpa using hq
      · cases hq
    rw [Addr.add_lit,Nat.zero_add];exact HP.cell hH.drew j hj hq2
  have hik:i*by'+k*by'=(i+k)*by':=(Nat.add_mul _ _ _).symm;have hr:=Lib.run_append_grow_zeros (P:=P) w t tn o.type e inf z .i64 .i64 ht htn hi' hz (some ⟨g,0,none⟩) i cap (cur.toList.take (i*sz)) hold k hk (by omega) hg (by omega) (by rw [hby];omega) (by rw [hby];exact growslice_fits hg hb);have hx2:(execOp b.eval o).run P w=.ok (.value (.slice (some ⟨w.heap.size,0,none⟩) (i+k) (grownCap w (i+k) cap e))) (w.drew.alloc (.cells ((cur.toList.take (i*sz)).toArray++Builtin.zeroCells z.cells k++Builtin.zeroCells z.cells (grownCap w (i+k) cap e-(i+k))) e)):=by
    unfold execOp;rw [ho];simp [resolve,invoke,builtin,hfr.ev hx,hfr.ev hy,hr]
  rw [hx2,Oper.upon_value,hd];have hge:=grownCap_ge w (i+k) cap e;have htl:(cur.toList.take (i*sz)).length=i*sz:=(by rw [List.length_take];simp;omega);have hsize:((cur.toList.take (i*sz)).toArray++Builtin.zeroCells z.cells k++Builtin.zeroCells z.cells (grownCap w (i+k) cap e-(i+k))).size=grownCap w (i+k) cap e*sz:=by
    simp only [Array.size_append,List.size_toArray,htl,size_zeroCells,hzs];rw [← Nat.add_mul,← Nat.add_mul]
    congr 1;omega
  have q:=HP.alloc hH.drew ((cur.toList.take (i*sz)).toArray++Builtin.zeroCells z.cells k++Builtin.zeroCells z.cells (grownCap w (i+k) cap e-(i+k))) e;refine hK' _ _ (h w.heap.size (grownCap w (i+k) cap e) _ _ q hsize hge (grownCap_le_maxLen w _ _ _ (by unfold maxLen;omega)) ?_ _ (hfr.put hn _));simp only [Array.toList_append,List.append_assoc];rw [List.take_append_of_le_length (by simp;omega),List.take_of_length_le (by simp;omega)]
theorem append_args {t t2 e e2 ty:TypeId} (ht:P.underlying t=some (.slice e)) (ht2:P.underlying t2=some (.slice e2)) (b:Option Addr) (k c:Nat) (b2:Option Addr) (k2 c2:Nat) (w:World):(Builtin.append_ #[t,t2] ty #[.slice b k c,.slice b2 k2 c2]).run P w=(Builtin.append_ #[t,t] ty #[.slice b k c,.slice b2 k2 c2]).run P w:=by
  simp [Builtin.append_,run_underlying ht,run_underlying ht2]
theorem WL.append2 {o:Oper} {t t2 e e2:TypeId} {inf:TypeInfo} {z:Value} {sz by':Nat} {x y:Operand} {v:Value} {k m:Nat} {xs news:List Value} {bn cp:Nat} {cn:Array Value} (i j:Nat) (hH:HP S w0 w H) (d:Nat) (hd:o.dst=some d) (hn:d<n) (hw:wants ops l o=some true)
    (ho:o.op=.call { callee:=.builtin .append,args:=#[x,y],argTypes:=#[t,t2] }) (hx:ev l x=some v) (hy:ev l y=some (.slice (some ⟨bn,0,none⟩) m cp))
    (ht:P.underlying t=some (.slice e)) (ht2:P.underlying t2=some (.slice e2)) (hi':P.info? e=some inf) (hz:inf.zero=some z) (hsz:inf.size=sz) (hby:inf.bytes=by') (hzs:z.cells.size=sz) (h0:0<sz)
    (hi:H[i]?=some (.own v k xs e sz)) (hj:H[j]?=some (.cel bn cn e)) (hnews:cn.toList.take news.length=news) (hl:news.length=m*sz) (h1:∀ u∈news,u.oneCell'=true) (h63:k+m≤maxLen) (hb:(k+m)*by'≤140737488355328)
    (h:∀ v' w2,(v'=.slice none 0 0↔v=.slice none 0 0∧m=0)→HP S w0 w2 (H.set i (.own v' (k+m) (xs++news) e sz))→WL P ops Q rest n ((d,v')::l) w2):WL P ops Q (o::rest) n l w:=by
  intro a ha;refine wpList_step fun K hK=>?_;rw [if_pos (wants_spec ha hw)];unfold Oper.wp;obtain⟨v',w2,hr,g1,g2,g3,g4⟩:=append_ent (P:=P) w t o.type e inf z sz by' ht hi' hz hsz hby hzs h0 v k xs (hH.get i hi) ⟨bn,0,none⟩ m cp news hl (fun q u hu=>by
    rw [Addr.add_mid];exact hH.range j hj (by simpa using hnews) q u hu) h1 h63 hb
  obtain⟨pv,kk,cc,rfl⟩:∃ pv kk cc,v=.slice pv kk cc:=by
    have h2:w.ownsRow 0 e sz v k xs:=hH.get i hi;rcases h2.2 with ⟨h3,h1⟩ | ⟨g,cap,cur,hv,_⟩
    · exact⟨_,_,_,h3⟩
    · exact⟨_,_,_,hv⟩
  have hx2:(execOp a.eval o).run P w=.ok (.value v') w2:=by
    unfold execOp;rw [ho];simp [resolve,invoke,builtin,ha.ev hx,ha.ev hy,append_args ht ht2,hr]
  rw [hx2,Oper.upon_value,hd];refine hK _ _ (h v' w2 g3 ?_ _ (ha.put hn v'));exact hH.change i hi g2.os g2.tape g2.output g2.size (fun q hq hne=>g2.block q hq fun e=>hne e.symm) ⟨g1.1,g1.2⟩ g4
theorem own_le {w:World} {pv:Option Addr} {n cp e s:Nat} {xs:List Value} (h:Ent.holds w (.own (.slice pv n cp) n xs e s)):n≤cp∧cp≤maxLen∧(n=0∨∃ g,pv=some ⟨g,0,none⟩):=by
  have h2:w.ownsRow 0 e s (.slice pv n cp) n xs:=h;rcases h2.2 with ⟨h3,h1⟩ | ⟨g,cap,cur,hv,_,_,hc,hm,_⟩
  · cases h3;exact⟨Nat.le_refl _,by decide,.inl rfl⟩
  · cases hv;exact⟨hc,hm,.inr ⟨g,rfl⟩⟩
theorem x_overlaps {o:Oper} {ρ:Operand→Value} {fn:Func} {f tS tR e sz b b2 o1 o2 l1 c1 l2 c2:Nat} {x y:Operand} {A B:Array Value} {T T2':TypeId} (i j:Nat) (hH:HP S w0 w H) (ho:o.op=.call { callee:=.value (.func f),args:=#[x,y],argTypes:=#[tS,tS] })
    (hf' : ρ (.func f) = .func (.func f) #[] #[]) (hx : ρ x = .slice (some ⟨b, o1, none⟩) l1 c1) (hy : ρ y = .slice (some ⟨b2, o2, none⟩) l2 c2) (hf : P.funcs[f]? = some fn) (hname : (fn.name == "runtime.NumGoroutine") = false)
    (hbd:fn.body.isNone=true) (hnx:Extern.findNext fn=none) (he:Extern.find fn=some (Extern.SlicesOverlaps.overlaps #[tS,tS] #[tR])) (ht:P.underlying tS=some (.slice e)) (hs:(P.info? e).map (·.size)=some sz)
    (hi:H[i]?=some (.cel b A T)) (hj:H[j]?=some (.cel b2 B T2')) (hne:b≠b2) (hB:B.size≠0) :
    (execOp ρ o).run P w=.ok (.value (.bool false)) w:=by
  obtain⟨inf,hq,rfl⟩:=Option.map_eq_some_iff.1 hs;have hz:∀ w,(sizeOf e).run P w=.ok inf.size w:=fun w=>by simp [sizeOf,typeInfo,hq]
  have g1:w.heap[b]?=some (.cells A T (0,0)):=hH.get i hi;have g2:w.heap[b2]?=some (.cells B T2' (0,0)):=hH.get j hj;have hr:(callFunc f #[.slice (some ⟨b,o1,none⟩) l1 c1,.slice (some ⟨b2,o2,none⟩) l2 c2]).run P w=.ok (.value (.bool false)) w:=by
    rw [run_callFunc_extern hf hname hbd hnx he,Lib.run_overlaps_apart w tS tR e ht inf.size hz ⟨b,o1,none⟩ ⟨b2,o2,none⟩ l1 c1 l2 c2 hne T T2' A.size B.size
      (by simp [World.shape?,g1]) (by simp [World.shape?,g2]) hB (by simp [World.frozen?,g1]) (by simp [World.frozen?,g1])]
    rfl
  unfold execOp;rw [ho];simp [resolve,invoke,Deferred.ofValue,hx,hy,hf',hr,go_sem]
end
end Fw
end Go.Proofs.YtmjnakhpekbenaaGreat
namespace Go.Proofs.YtmjnakhpekbenaaGreat
set_option maxRecDepth 20000
set_option maxHeartbeats 4000000
open Go.RowKit Fw
namespace Ca
theorem HP.monoS {S S':Nat→Prop} {w0 w:World} {H:List Ent} (h:HP S w0 w H) (hk:∀ b,S' b→S b):HP S' w0 w H:=⟨h.os,h.tape,h.output,h.size,fun k hl hS=>h.keep k hl (hk k hS),h.hold,fun e he b hb hl hS=>h.fresh e he b hb hl (hk b hS),h.apart⟩
theorem ins_grow {C X cs:List Value} {a k:Nat} (hX:X.length=2) (ha:a≤C.length) :
    ((C.take a++X++C.drop (a+X.length)).take (a+2)++cs++(C.take a++X++C.drop (a+X.length)).drop k).take (a+2+cs.length)=C.take a++X++cs:=by
  have e1:(C.take a++X++C.drop (a+X.length)).take (a+2)=C.take a++X:=by
    rw [List.take_append_of_le_length (by simp;omega),List.take_of_length_le (by simp;omega)]
  rw [e1,List.take_append_of_le_length (by simp;omega),List.take_of_length_le (by simp;omega)]
theorem ins_room {C X cs:List Value} {a k:Nat} (hX:X.length=2) (ha:a+2≤C.length) :
    ((C.take (a+2)++cs++C.drop k).take a++X++(C.take (a+2)++cs++C.drop k).drop (a+X.length)).take (a+2+cs.length)=C.take a++X++cs:=by
  have e1:(C.take (a+2)++cs++C.drop k).take a=C.take a:=by
    rw [List.append_assoc,List.take_append_of_le_length (by simp;omega),List.take_take,Nat.min_eq_left (by omega)]
  have e2:(C.take (a+2)++cs++C.drop k).drop (a+X.length)=cs++C.drop k:=by
    rw [hX,List.append_assoc,List.drop_left' (by simp;omega)]
  rw [e1,e2,← List.append_assoc,List.take_append_of_le_length (by simp;omega),List.take_of_length_le (by simp;omega)]
theorem toL_size {l:List Value}:l.toArray.size=l.length:=by simp
theorem app_len {C X:List Value} {a:Nat} (h:a+X.length≤C.length):(C.take a++X++C.drop (a+X.length)).length=C.length:=by simp;omega
theorem cs_mem {C:List Value} {i n:Nat} {v:Value} (hi:i<n) (h:v∈(C.drop (i*2)).take ((n-i)*2)):v∈C.take (n*2):=by
  have e:(C.drop (i*2)).take ((n-i)*2)=(C.take (n*2)).drop (i*2):=(by rw [List.drop_take];congr 1;omega);rw [e] at h;exact List.mem_of_mem_drop h
theorem cs_at {C:Array Value} {a k j:Nat} {v:Value} (h:((C.toList.drop a).take k)[j]?=some v):C[a+j]?=some v:=by
  rw [List.getElem?_take] at h;split at h
  · rw [List.getElem?_drop] at h;simpa using h
  · cases h
theorem insC_any (g gb n c i:Nat) (cur:Array Value) (x:T2) (w:World) (hB:OwnB w [Go.Proofs.YtmjnakhpekbenaaGreat.Fw.Ent.cel g cur 67,Go.Proofs.YtmjnakhpekbenaaGreat.Fw.Ent.cel gb #[vI x.1,vI x.2] 67]) (hs:cur.size=c*2) (hone:∀ v∈cur.toList.take (n*2),v.oneCell'=true) (hne:gb≠g) (hnc:n≤c) (hm:c≤maxLen) (hi:i<n) (hn:n≤1000000) :
  Calls Tryz.prog 43 #[vS g n c,vI (i:Int),vS gb 1 1] w fun e w'=>∃ g' c' cur',e=.returned (vS g' (n+1) c')∧HP (Out [Go.Proofs.YtmjnakhpekbenaaGreat.Fw.Ent.cel g cur 67,Go.Proofs.YtmjnakhpekbenaaGreat.Fw.Ent.cel gb #[vI x.1,vI x.2] 67]) w w' [.cel g' cur' 67]∧cur'.size=c'*2∧n+1≤c'∧c'≤maxLen∧cur'.toList.take ((n+1)*2)=cur.toList.take (i*2)++[vI x.1,vI x.2]++(cur.toList.drop (i*2)).take ((n-i)*2):=by
 refine calls_of Tryz.func43 rfl (m:=95) rfl [(0,vS g n c),(1,vI (i:Int)),(2,vS gb 1 1)] (Fr_enter [vS g n c,vI (i:Int),vS gb 1 1] 95 (Nat.le_of_ble_eq_true rfl)) ?_;refine WC.seq fun K1 hK1=>WC.region (WL.z (.slice none 0 0) 6 (WL.k hK1 (WC.seq fun K2 hK2=>WC.region (WL.z (vS g n c) 10 (WL.z (vI (i:Int)) 11 (WL.y (.slice (some ⟨g,i*2,none⟩) (n-i) (c-i)) 12 (x_sliceL (i) rfl rfl rfl Tryz.underlying64 (by omega) (by omega) (by omega) sz67 (by omega) rfl rfl (by omega)) (WL.nil ?_)))))));refine WQ.then (hK2 _ _ _ (WC.seq fun K3 hK3=>WC.region (WL.z (vS gb 1 1) 13 (WL.z (vI 1) 14 (WL.z (vI 1) 7 (WL.k hK3 (WC.seq fun K4 hK4=>WC.seq fun K5 hK5=>?_)))))));refine WC.region (WL.z (vI 1) 15 (WL.y (.bool false) 16 (x_eql rfl rfl rfl (by decide)) (WL.k hK5 (WC.sb [(0,vS g n c),(1,vI (i:Int)),(2,vS gb 1 1),(6,.slice none 0 0),(7,vI 1),(16,.bool false)] ?_))));refine WC.no rfl ?_;refine WC.skip (WQ.then (hK4 _ _ _ (WC.seq fun K6 hK6=>WC.region (WL.z (vS g n c) 18 (WL.z (vI (n:Int)) 19 (WL.z (vI (n:Int)) 8 (WL.k hK6 (WC.seq fun K7 hK7=>?_))))))));refine WC.seq fun K8 hK8=>WC.region (WL.z (vI (i:Int)) 20 (WL.z (vI (n:Int)) 21 (WL.y (.bool false) 22 (x_eql rfl rfl rfl (dF (by omega))) (WL.k hK8 ?_))));refine WC.no rfl ?_;refine WC.skip (WQ.then (hK7 _ _ _ (WC.seq fun K9 hK9=>WC.seq fun K10 hK10=>WC.region (WL.z (vI (n:Int)) 26 (WL.z (vI 1) 27 (WL.y (vI ((n+1:Nat):Int)) 28 (x_ad (((n+1:Nat):Int))) (WL.z (vS g n c) 29 (WL.z (vI (c:Int)) 30 ?_))))))));by_cases hgr:(c:Int)<((n+1:Nat):Int)
 ·
  refine WL.y (.bool true) 31 (x_gtr rfl rfl rfl (dT (hgr))) (WL.k hK10 (WC.sb [(0,vS g n c),(1,vI (i:Int)),(2,vS gb 1 1),(6,.slice none 0 0),(7,vI 1),(8,vI (n:Int)),(16,.bool false),(22,.bool false),(31,.bool true)] ?_));refine WC.yes rfl ?_;refine WC.seq fun K11 hK11=>WC.region (WL.z (vS g n c) 32 (WL.z (vI (i:Int)) 33 (WL.y (vS g i c) 34 (x_sliceH (i) rfl rfl rfl Tryz.underlying64 (by omega) (by omega) sz67) (WL.z (vI (n:Int)) 35 (WL.z (vI 1) 36 (WL.y (vI ((n+1:Nat):Int)) 37 (x_ad (((n+1:Nat):Int))) (WL.z (vI (i:Int)) 38 (WL.y (vI ((n+1-i:Nat):Int)) 39 (x_sub (Z:=((n+1-i:Nat):Int)) rfl rfl rfl (by omega) (by omega) (by omega)) ?_))))))));obtain⟨i0,hi0,hz0,hz1,hz2⟩:=infoT;refine WL.growZeros (k:=n+1-i) 0 (HP.startB hB) 40 rfl (by decide) rfl rfl rfl rfl rfl Tryz.underlying64 Tryz.underlying3 hi0 hz0 hz1 hz2 rfl (by decide) rfl (by omega) (by omega) (by omega) (by omega) (by omega) ?_;intro g2 c2 cur2 w5 hA5 hs5 hc5 hm5 ht5;have e5:i+(n+1-i)=n+1:=(by omega);rw [e5] at hc5 ⊢;have hH12:HP (Out [Go.Proofs.YtmjnakhpekbenaaGreat.Fw.Ent.cel g cur 67,Go.Proofs.YtmjnakhpekbenaaGreat.Fw.Ent.cel gb #[vI x.1,vI x.2] 67]) w _ [.cel g cur 67,.cel gb #[vI x.1,vI x.2] 67,.cel g2 cur2 67]:=hA5;refine WL.z (vS g2 (n+1) c2) 9 (WL.k hK11 (WC.sb [(0,vS g n c),(1,vI (i:Int)),(2,vS gb 1 1),(6,.slice none 0 0),(7,vI 1),(8,vI (n:Int)),(9,vS g2 (n+1) c2),(16,.bool false),(22,.bool false),(31,.bool true)] (WC.seq fun K13 hK13=>WC.region (WL.z (vS g2 (n+1) c2) 41 (WL.z (vI (i:Int)) 42 (WL.y (.slice (some ⟨g2,i*2,none⟩) (n+1-i) (c2-i)) 43 (x_sliceL (i) rfl rfl rfl Tryz.underlying64 (by omega) (by omega) (by omega) sz67 (by omega) rfl rfl (by omega)) (WL.z (vS gb 1 1) 44 ?_)))))));refine WL.copyCel 2 hH12 [vI x.1,vI x.2] 45 rfl (by decide) rfl rfl rfl rfl Tryz.underlying64 sz67 rfl (by rw [show Nat.min 1 (n+1-i)=1 from Nat.min_eq_left (by omega)];rfl) (fun j v hj=>by rw [Addr.add_lit];exact HP.range hH12 1 rfl rfl j v hj) (by simp only [List.length_cons,List.length_nil];omega) (by simp [Value.oneCell']) ?_
  intro w14 hCw14;generalize ecur4:(cur2.toList.take (i*2)++[vI x.1,vI x.2]++cur2.toList.drop (i*2+[vI x.1,vI x.2].length)).toArray=cur4 at hCw14;have scur4:cur4.size=cur2.size:=(by rw [← ecur4,toL_size,app_len (by simp only [List.length_cons,List.length_nil,Array.length_toList];omega),Array.length_toList]);have hH15:HP (Out [Go.Proofs.YtmjnakhpekbenaaGreat.Fw.Ent.cel g cur 67,Go.Proofs.YtmjnakhpekbenaaGreat.Fw.Ent.cel gb #[vI x.1,vI x.2] 67]) w _ [.cel g cur 67,.cel gb #[vI x.1,vI x.2] 67,.cel g2 cur4 67]:=hCw14;refine WL.k hK13 (WC.seq fun K16 hK16=>?_);refine WC.stillTail 8 (by kernel_rfl) (by kernel_rfl) ?_;have hH17:=HP.drew hH15;refine WS.z (vS g2 (n+1) c2) 46 (WS.z (vI (i:Int)) 47 (WS.z (vI 1) 48 (WS.y (vI ((i+1:Nat):Int)) 49 (x_ad (((i+1:Nat):Int))) (WS.y (.slice (some ⟨g2,(i+1)*2,none⟩) (n+1-(i+1)) (c2-(i+1))) 50 (x_sliceL (i+1) rfl rfl rfl Tryz.underlying64 (by omega) (by omega) (by omega) sz67 (by omega) rfl rfl (by omega)) (WS.z (vS g n c) 51 (WS.z (vI (i:Int)) 52 (WS.y (.slice (some ⟨g,i*2,none⟩) (n-i) (c-i)) 53 (x_sliceL (i) rfl rfl rfl Tryz.underlying64 (by omega) (by omega) (by omega) sz67 (by omega) rfl rfl (by omega)) ?_)))))));refine WS.nilL ?_;have hcs:((cur.toList.drop (i*2)).take ((n-i)*2)).length=(n-i)*2:=(by rw [List.length_take,List.length_drop,Array.length_toList];omega);have hmn:Nat.min (n-i) (n+1-(i+1))=n-i:=(by simp only [Nat.min_def];split <;> omega);refine WL.copyCel 2 hH17 ((cur.toList.drop (i*2)).take ((n-i)*2)) 54 rfl (by decide) rfl rfl rfl rfl Tryz.underlying64 sz67 rfl (by rw [hmn,hcs]) (fun j v hj=>by rw [Addr.add_lit];exact HP.cell hH17 0 rfl (cs_at hj)) (by rw [hcs];omega) (fun v hv=>hone v (cs_mem hi hv)) ?_;intro w18 hCw18;generalize ecur5:(cur4.toList.take ((i+1)*2)++((cur.toList.drop (i*2)).take ((n-i)*2))++cur4.toList.drop ((i+1)*2+((cur.toList.drop (i*2)).take ((n-i)*2)).length)).toArray=cur5 at hCw18
  have scur5:cur5.size=cur4.size:=(by rw [← ecur5,toL_size,app_len (by rw [hcs,Array.length_toList];omega),Array.length_toList]);have hH19:HP (Out [Go.Proofs.YtmjnakhpekbenaaGreat.Fw.Ent.cel g cur 67,Go.Proofs.YtmjnakhpekbenaaGreat.Fw.Ent.cel gb #[vI x.1,vI x.2] 67]) w _ [.cel g cur 67,.cel gb #[vI x.1,vI x.2] 67,.cel g2 cur5 67]:=hCw18;refine WL.k hK16 (WC.sb [(0,vS g n c),(1,vI (i:Int)),(2,vS gb 1 1),(6,.slice none 0 0),(7,vI 1),(8,vI (n:Int)),(9,vS g2 (n+1) c2),(16,.bool false),(22,.bool false),(31,.bool true)] (WC.seq fun K20 hK20=>WC.region (WL.z (vS g2 (n+1) c2) 55 (WL.z (vS g2 (n+1) c2) 6 (WL.k hK20 (WC.ret ?_))))));refine WQ.thenRet ?_;refine WQ.ret1 6 rfl rfl ?_;refine⟨g2,c2,cur5,rfl,HP.drop (HP.drop hH19 0) 0,by omega,hc5,hm5,?_⟩;rw [← ecur5,← ecur4,← ht5];rw [show (i+1)*2=i*2+2 by omega,show (n+1)*2=i*2+2+((cur.toList.drop (i*2)).take ((n-i)*2)).length by rw [hcs];omega];exact ins_grow rfl (by rw [Array.length_toList];omega)
 ·
  refine WL.y (.bool false) 31 (x_gtr rfl rfl rfl (dF (hgr))) (WL.k hK10 (WC.sb [(0,vS g n c),(1,vI (i:Int)),(2,vS gb 1 1),(6,.slice none 0 0),(7,vI 1),(8,vI (n:Int)),(16,.bool false),(22,.bool false),(31,.bool false)] ?_));refine WC.no rfl ?_;refine WC.skip (WQ.then (hK9 _ _ _ (WC.seq fun K21 hK21=>WC.region (WL.z (vS g n c) 56 (WL.z (vI (n:Int)) 57 (WL.z (vI 1) 58 (WL.y (vI ((n+1:Nat):Int)) 59 (x_ad (((n+1:Nat):Int))) (WL.y (vS g (n+1) c) 60 (x_sliceH (n+1) rfl rfl rfl Tryz.underlying64 (by omega) (by omega) sz67) (WL.z (vS g (n+1) c) 0 (WL.nil ?_))))))))));refine WQ.then (hK21 _ _ _ (WC.sb [(0,vS g (n+1) c),(1,vI (i:Int)),(2,vS gb 1 1),(6,.slice none 0 0),(7,vI 1),(8,vI (n:Int)),(16,.bool false),(22,.bool false),(31,.bool false)] (WC.seq fun K22 hK22=>WC.seq fun K23 hK23=>WC.region (WL.z (vS gb 1 1) 61 (WL.z (vS g (n+1) c) 62 (WL.z (vI (i:Int)) 63 (WL.z (vI 1) 64 (WL.y (vI ((i+1:Nat):Int)) 65 (x_ad (((i+1:Nat):Int))) (WL.y (.slice (some ⟨g,(i+1)*2,none⟩) (n+1-(i+1)) (c-(i+1))) 66 (x_sliceL (i+1) rfl rfl rfl Tryz.underlying64 (by omega) (by omega) (by omega) sz67 (by omega) rfl rfl (by omega)) ?_)))))))));refine WL.y (.bool false) 67 (x_overlaps (tR:=4) 1 0 (HP.startB hB) rfl rfl rfl rfl Tryz.func72 (by kernel_rfl) (by kernel_rfl) (by kernel_rfl) (by kernel_rfl) Tryz.underlying63 sz67 rfl rfl hne (by omega)) (WL.z (.bool true) 68 (WL.k hK23 (WC.sb [(0,vS g (n+1) c),(1,vI (i:Int)),(2,vS gb 1 1),(6,.slice none 0 0),(7,vI 1),(8,vI (n:Int)),(16,.bool false),(22,.bool false),(31,.bool false),(68,.bool true)] ?_)));refine WC.yes rfl ?_;refine WC.seq fun K24 hK24=>?_;refine WC.stillTail 8 (by kernel_rfl) (by kernel_rfl) ?_;have hH25:HP (Out [Go.Proofs.YtmjnakhpekbenaaGreat.Fw.Ent.cel g cur 67,Go.Proofs.YtmjnakhpekbenaaGreat.Fw.Ent.cel gb #[vI x.1,vI x.2] 67]) w _ [.cel g cur 67,.cel gb #[vI x.1,vI x.2] 67]:=HP.drew (HP.startB hB)
  refine WS.z (vS g (n+1) c) 69 (WS.z (vI (i:Int)) 70 (WS.z (vI 1) 71 (WS.y (vI ((i+1:Nat):Int)) 72 (x_ad (((i+1:Nat):Int))) (WS.y (.slice (some ⟨g,(i+1)*2,none⟩) (n+1-(i+1)) (c-(i+1))) 73 (x_sliceL (i+1) rfl rfl rfl Tryz.underlying64 (by omega) (by omega) (by omega) sz67 (by omega) rfl rfl (by omega)) (WS.z (vS g (n+1) c) 74 (WS.z (vI (i:Int)) 75 (WS.y (.slice (some ⟨g,i*2,none⟩) (n+1-i) (c-i)) 76 (x_sliceL (i) rfl rfl rfl Tryz.underlying64 (by omega) (by omega) (by omega) sz67 (by omega) rfl rfl (by omega)) ?_)))))));refine WS.nilL ?_;have hcs:((cur.toList.drop (i*2)).take ((n-i)*2)).length=(n-i)*2:=(by rw [List.length_take,List.length_drop,Array.length_toList];omega);have hmn:Nat.min (n+1-i) (n+1-(i+1))=n-i:=(by simp only [Nat.min_def];split <;> omega);refine WL.copyCel 0 hH25 ((cur.toList.drop (i*2)).take ((n-i)*2)) 77 rfl (by decide) rfl rfl rfl rfl Tryz.underlying64 sz67 rfl (by rw [hmn,hcs]) (fun j v hj=>by rw [Addr.add_lit];exact HP.cell hH25 0 rfl (cs_at hj)) (by rw [hcs];omega) (fun v hv=>hone v (cs_mem hi hv)) ?_;intro w26 hCw26;generalize ecur6:(cur.toList.take ((i+1)*2)++((cur.toList.drop (i*2)).take ((n-i)*2))++cur.toList.drop ((i+1)*2+((cur.toList.drop (i*2)).take ((n-i)*2)).length)).toArray=cur6 at hCw26;have scur6:cur6.size=cur.size:=(by rw [← ecur6,toL_size,app_len (by rw [hcs,Array.length_toList];omega),Array.length_toList]);have hH27:HP (Out [Go.Proofs.YtmjnakhpekbenaaGreat.Fw.Ent.cel g cur 67,Go.Proofs.YtmjnakhpekbenaaGreat.Fw.Ent.cel gb #[vI x.1,vI x.2] 67]) w _ [.cel g cur6 67,.cel gb #[vI x.1,vI x.2] 67]:=hCw26;refine WL.k hK24 (WC.sb [(0,vS g (n+1) c),(1,vI (i:Int)),(2,vS gb 1 1),(6,.slice none 0 0),(7,vI 1),(8,vI (n:Int)),(16,.bool false),(22,.bool false),(31,.bool false),(68,.bool true)] (WC.seq fun K28 hK28=>WC.region (WL.z (vS g (n+1) c) 78 (WL.z (vI (i:Int)) 79 (WL.y (.slice (some ⟨g,i*2,none⟩) (n+1-i) (c-i)) 80 (x_sliceL (i) rfl rfl rfl Tryz.underlying64 (by omega) (by omega) (by omega) sz67 (by omega) rfl rfl (by omega)) (WL.z (vS gb 1 1) 81 ?_))))))
  refine WL.copyCel 0 hH27 [vI x.1,vI x.2] 82 rfl (by decide) rfl rfl rfl rfl Tryz.underlying64 sz67 rfl (by rw [show Nat.min 1 (n+1-i)=1 from Nat.min_eq_left (by omega)];rfl) (fun j v hj=>by rw [Addr.add_lit];exact HP.range hH27 1 rfl rfl j v hj) (by simp only [List.length_cons,List.length_nil];omega) (by simp [Value.oneCell']) ?_;intro w29 hCw29;generalize ecur7:(cur6.toList.take (i*2)++[vI x.1,vI x.2]++cur6.toList.drop (i*2+[vI x.1,vI x.2].length)).toArray=cur7 at hCw29;have scur7:cur7.size=cur6.size:=(by rw [← ecur7,toL_size,app_len (by simp only [List.length_cons,List.length_nil,Array.length_toList];omega),Array.length_toList]);have hH30:HP (Out [Go.Proofs.YtmjnakhpekbenaaGreat.Fw.Ent.cel g cur 67,Go.Proofs.YtmjnakhpekbenaaGreat.Fw.Ent.cel gb #[vI x.1,vI x.2] 67]) w _ [.cel g cur7 67,.cel gb #[vI x.1,vI x.2] 67]:=hCw29;refine WL.k hK28 (WC.seq fun K31 hK31=>WC.region (WL.z (vS g (n+1) c) 83 (WL.z (vS g (n+1) c) 6 (WL.k hK31 (WC.sb [(0,vS g (n+1) c),(1,vI (i:Int)),(2,vS gb 1 1),(6,vS g (n+1) c),(7,vI 1),(8,vI (n:Int)),(16,.bool false),(22,.bool false),(31,.bool false),(68,.bool true)] (WC.ret ?_))))));refine WQ.thenRet ?_;refine WQ.ret1 6 rfl rfl ?_;refine⟨g,c,cur7,rfl,HP.drop hH30 1,by omega,by omega,hm,?_⟩;rw [← ecur7,← ecur6];rw [show (i+1)*2=i*2+2 by omega,show (n+1)*2=i*2+2+((cur.toList.drop (i*2)).take ((n-i)*2)).length by rw [hcs];omega];exact ins_room rfl (by rw [Array.length_toList];omega)
theorem insE_any (pv:Option Addr) (cp gb:Nat) (t:List T2) (x:T2) (w:World) (hB:OwnB w [rowT pv t.length cp t,Go.Proofs.YtmjnakhpekbenaaGreat.Fw.Ent.cel gb #[vI x.1,vI x.2] 67]) (hn:t.length≤1000000) :
    Calls Tryz.prog 43 #[.slice pv t.length cp,vI (t.length:Int),vS gb 1 1] w fun e w'=>∃ pv' cp',e=.returned (.slice pv' (t.length+1) cp')∧HP (Out [rowT pv t.length cp t,Go.Proofs.YtmjnakhpekbenaaGreat.Fw.Ent.cel gb #[vI x.1,vI x.2] 67]) w w' [.own (.slice pv' (t.length+1) cp') (t.length+1) (tL (t++[(x.1,x.2)])) 67 2]:=by
  refine calls_of Tryz.func43 rfl (m:=95) rfl [(0,.slice pv t.length cp),(1,vI (t.length:Int)),(2,vS gb 1 1)] (Fr_enter [.slice pv t.length cp,vI (t.length:Int),vS gb 1 1] 95 (Nat.le_of_ble_eq_true rfl)) ?_;refine WC.seq fun K1 hK1=>WC.region (WL.z (.slice none 0 0) 6 (WL.k hK1 (WC.seq fun K2 hK2=>WC.region (WL.z (.slice pv t.length cp) 10 (WL.z (vI (t.length:Int)) 11 ?_)))));obtain⟨hle,hcm,-⟩:=own_le (HP.get (HP.startB hB) 0 rfl);obtain⟨v12,hv12⟩:=x_sliceAny (P:=Tryz.prog) (s:=2) (a:=pv) t.length w Tryz.underlying64 sz67 rfl (Nat.le_refl _) hle;refine WL.y v12 12 (hv12 rfl rfl rfl) (WL.k hK2 (WC.seq fun K3 hK3=>WC.region (WL.z (vS gb 1 1) 13 (WL.z (vI 1) 14 (WL.z (vI 1) 7 (WL.k hK3 ?_))))));refine WC.seq fun K4 hK4=>WC.seq fun K5 hK5=>WC.region (WL.z (vI 1) 15 (WL.y (.bool false) 16 (x_eql rfl rfl rfl (by decide)) (WL.k hK5 (WC.sb [(0,.slice pv t.length cp),(1,vI (t.length:Int)),(2,vS gb 1 1),(6,.slice none 0 0),(7,vI 1),(16,.bool false)] ?_))));refine WC.no rfl ?_;refine WC.skip (WQ.then (hK4 _ _ _ (WC.seq fun K6 hK6=>WC.region (WL.z (.slice pv t.length cp) 18 (WL.z (vI (t.length:Int)) 19 (WL.z (vI (t.length:Int)) 8 (WL.k hK6 (WC.seq fun K7 hK7=>?_))))))));refine WC.seq fun K8 hK8=>WC.region (WL.z (vI (t.length:Int)) 20 (WL.z (vI (t.length:Int)) 21 (WL.y (.bool true) 22 (x_eql rfl rfl rfl (dT (rfl))) (WL.k hK8 ?_))));refine WC.yes rfl ?_;refine WC.seq fun K9 hK9=>WC.region (WL.z (.slice pv t.length cp) 23 (WL.z (vS gb 1 1) 24 ?_));obtain⟨i0,hi0,hz0,hz1,hz2⟩:=infoT;refine WL.append2 (news:=[vI x.1,vI x.2]) 0 1 (HP.startB hB) 25 rfl (by decide) rfl rfl rfl rfl Tryz.underlying64 Tryz.underlying63 hi0 hz0 hz1 hz2 rfl (by decide) rfl rfl rfl rfl (by simp [Value.oneCell']) (by unfold maxLen;omega) (by omega) ?_;rintro v7 w7-hA7;obtain⟨pv7,cp7,rfl⟩:=own_row (HP.get hA7 0 rfl);have e7:t.length+1=(t++[(x.1,x.2)]).length:=(len1 _ _).symm
  rw [tL_push] at hA7;have hH10:HP (Out [rowT pv t.length cp t,Go.Proofs.YtmjnakhpekbenaaGreat.Fw.Ent.cel gb #[vI x.1,vI x.2] 67]) w _ [.own (.slice pv7 (t.length+1) cp7) (t.length+1) (tL (t++[(x.1,x.2)])) 67 2,.cel gb #[vI x.1,vI x.2] 67]:=hA7;refine WL.z (.slice pv7 (t.length+1) cp7) 6 (WL.k hK9 (WC.sb [(0,.slice pv t.length cp),(1,vI (t.length:Int)),(2,vS gb 1 1),(6,.slice pv7 (t.length+1) cp7),(7,vI 1),(8,vI (t.length:Int)),(16,.bool false),(22,.bool true)] (WC.ret ?_)));refine WQ.thenRet ?_;refine WQ.ret1 6 rfl rfl ?_;exact⟨pv7,cp7,rfl,HP.drop hH10 1⟩
theorem tL_take:∀ (t:List T2) (i:Nat),(tL t).take (i*2)=tL (t.take i)
  | [],i=>by simp [tL]
  | p::r,0=>by simp [tL]
  | p::r,i+1=>by
    have h:=tL_take r i;rw [List.take_succ_cons,show (i+1)*2=i*2+1+1 by omega];show (vI p.1::vI p.2::tL r).take (i*2+1+1)=vI p.1::vI p.2::tL (r.take i);rw [List.take_succ_cons,List.take_succ_cons,h]
theorem tL_drop:∀ (t:List T2) (i:Nat),(tL t).drop (i*2)=tL (t.drop i)
  | [],i=>by simp [tL]
  | p::r,0=>by simp [tL]
  | p::r,i+1=>by
    have h:=tL_drop r i;rw [List.drop_succ_cons,show (i+1)*2=i*2+1+1 by omega];show (vI p.1::vI p.2::tL r).drop (i*2+1+1)=tL (r.drop i);rw [List.drop_succ_cons,List.drop_succ_cons,h]
theorem tL_app (a c:List T2):tL (a++c)=tL a++tL c:=by simp [tL]
theorem insT_end (t:List T2) (x:T2):insT t t.length x=t++[(x.1,x.2)]:=by simp [insT]
theorem Insert_any (pv:Option Addr) (cp gb i:Nat) (t:List T2) (x:T2) (w:World) (hB:OwnB w [rowT pv t.length cp t,Go.Proofs.YtmjnakhpekbenaaGreat.Fw.Ent.cel gb #[vI x.1,vI x.2] 67]) (hi:i≤t.length) (hn:t.length≤1000000) :
    Calls Tryz.prog 43 #[.slice pv t.length cp,vI (i:Int),vS gb 1 1] w fun e w'=>∃ pv' cp',e=.returned (.slice pv' (insT t i x).length cp')∧HP (Out [rowT pv t.length cp t,Go.Proofs.YtmjnakhpekbenaaGreat.Fw.Ent.cel gb #[vI x.1,vI x.2] 67]) w w' [rowT pv' (insT t i x).length cp' (insT t i x)]:=by
  rw [insT_len hi];by_cases he:i=t.length
  · subst he
    rw [insT_end];exact insE_any pv cp gb t x w hB hn
  · have h0 := HP.startB hB
    obtain⟨hle,hcm,hpv⟩:=own_le (HP.get h0 0 rfl);obtain⟨g,rfl⟩:∃ g,pv=some ⟨g,0,none⟩:=(by rcases hpv with h | h;omega;exact h);obtain⟨cur,hC,hnc,hcm,hcs,htk⟩:=HP.ownToCel h0 0 rfl;have hne:gb≠g:=fun e=>(List.pairwise_cons.1 hB.2).1 (.cel gb #[vI x.1,vI x.2] 67) (by simp) g rfl (by rw [e];rfl);have hB2:OwnB w [Go.Proofs.YtmjnakhpekbenaaGreat.Fw.Ent.cel g cur 67,Go.Proofs.YtmjnakhpekbenaaGreat.Fw.Ent.cel gb #[vI x.1,vI x.2] 67]:=HP.ownB (A:=[]) hC;refine(insC_any g gb t.length cp i cur x w hB2 hcs (fun v hv=>?_) hne hnc hcm (by omega) hn).mono fun e w' h=>?_
    · rw [htk] at hv;exact tL_one t v hv
    · obtain ⟨g', c', cur', rfl, h1, h2, h3, h4, h5⟩ := h
      refine⟨_,_,rfl,?_⟩;have e5:cur'.toList.take ((t.length+1)*2)=tL (insT t i x):=by
        rw [h5];have e1:cur.toList.take (i*2)=tL (t.take i):=by
          rw [← tL_take,← htk,List.take_take,Nat.min_eq_left (by omega)]
        have e2:(cur.toList.drop (i*2)).take ((t.length-i)*2)=tL (t.drop i):=by
          rw [← tL_drop,← htk,List.drop_take]
          congr 1;omega
        rw [e1,e2];unfold insT;rw [tL_app];simp [tL]
      have h6:=HP.celToOwn h1 0 (k:=t.length+1) (cap:=c') (s:=2) rfl h3 h4 h2;rw [e5] at h6;refine HP.monoS h6 fun b hb e he'=>?_;rcases List.mem_cons.1 he' with rfl | he'
      · exact hb (rowT (some ⟨g,0,none⟩) t.length cp t) (by simp)
      · exact hb e (List.mem_cons_of_mem _ he')
theorem src_T {w:World} {a:Addr} {t:List T2} (h:InT w (some a) t):∀ q u,(tL t)[q]?=some u→w.cell? (a.add q)=some u:=fun q u hq=>by
  have hlt:=(List.getElem?_eq_some_iff.1 hq).1;rw [tL_len] at hlt;obtain⟨g,o,e,hr⟩:=h (by omega);cases e;rw [hadd];have h2:=tL_at (t:=t) (i:=q/2) (by omega);have h3:=hr (q/2) (by omega);rcases Nat.mod_two_eq_zero_or_one q with h | h
  · have e : q / 2 * 2 = q := by omega
    rw [e] at h2 h3;rw [h2.1] at hq;exact h3 0 u (by simpa using hq)
  · have e : q / 2 * 2 + 1 = q := by omega
    rw [e] at h2;rw [h2.2] at hq;have h4:=h3 1 u (by simpa using hq)
    rwa [show o+q/2*2+1=o+q by omega] at h4
theorem CloneT_any (p:Option Addr) (t:List T2) (cp:Nat) (w:World) (hT:InT w p t) (hn:t.length≤100000) :
  Calls Tryz.prog 42 #[.slice p t.length cp] w fun e w'=>∃ pv cp',e=.returned (.slice pv t.length cp')∧HP Tr w w' [rowT pv t.length cp' t]:=by
 refine calls_of Tryz.func42 rfl (m:=8) rfl [(0,.slice p t.length cp)] (Fr_enter [.slice p t.length cp] 8 (Nat.le_of_ble_eq_true rfl)) ?_;have hH1:HP Tr w w []:=HP.refl w;cases p with
 | none =>
  refine WC.seq fun K2 hK2=>WC.region (WL.z (.slice none 0 0) 2 (WL.k hK2 (WC.seq fun K3 hK3=>WC.seq fun K4 hK4=>WC.region (WL.z (.slice none t.length cp) 3 (WL.y (.bool true) 4 (x_eqlNil rfl rfl rfl Tryz.underlying64 (by kernel_rfl) rfl) (WL.nil ?_))))));refine WQ.then (hK4 _ _ _ (WC.yes rfl ?_));refine WC.seq fun K5 hK5=>WC.region (WL.z (.slice none 0 0) 2 (WL.k hK5 (WC.ret ?_)));refine WQ.thenRet ?_;refine WQ.ret1 2 rfl rfl ?_;obtain rfl:t=[]:=(by cases t with | nil=>rfl | cons q r=>obtain⟨g,o,e,_⟩:=hT (by simp);cases e);exact⟨none,0,rfl,HP.ownNil hH1 67 2⟩
 | some a =>
  refine WC.seq fun K6 hK6=>WC.region (WL.z (.slice none 0 0) 2 (WL.k hK6 (WC.seq fun K7 hK7=>WC.seq fun K8 hK8=>WC.region (WL.z (.slice (some a) t.length cp) 3 (WL.y (.bool false) 4 (x_eqlNil rfl rfl rfl Tryz.underlying64 (by kernel_rfl) rfl) (WL.nil ?_))))));refine WQ.then (hK8 _ _ _ (WC.no rfl ?_));refine WC.skip (WQ.then (hK7 _ _ _ (WC.seq fun K9 hK9=>WC.region ?_)));refine WL.alloc (c:=#[]) (T:=67) hH1 5 rfl (by decide) rfl rfl (fun b5=>vS b5 0 0) (by kernel_rfl) (fun b5 w10 hw10=>?_);have hH11:HP Tr w w10 [.cel b5 #[] 67]:=hw10.2;have nb5:=hw10.1;clear hw10;refine WL.z (.slice (some a) t.length cp) 6 ?_;have hO9:=HP.celToOwn hH11 0 (k:=0) (cap:=0) (s:=2) rfl (Nat.le_refl _) (by decide) rfl;have hH12:HP Tr w _ [rowT (some ⟨b5,0,none⟩) ([]:List T2).length 0 ([]:List T2)]:=HP.eq hO9 rfl;obtain⟨i0,hi0,hz0,hz1,hz2⟩:=infoT;refine WL.appendSrc (tL t) 0 hH12 7 rfl (by decide) rfl rfl rfl rfl Tryz.underlying64 hi0 hz0 hz1 hz2 rfl (by decide) rfl (.inl ⟨a,rfl,src_T (hT.below (HP.below hH12))⟩) (tL_len t) (tL_one t) (by unfold maxLen;simp only [List.length_nil];omega) (by simp only [List.length_nil];omega) ?_;rintro v7 w7-hA7;obtain⟨pv7,cp7,rfl⟩:=own_row (HP.get hA7 0 rfl);rw [show ([]:List T2).length+t.length=t.length from Nat.zero_add _,show tL ([]:List T2)++tL t=tL t from rfl] at hA7;rw [show ([]:List T2).length+t.length=t.length from Nat.zero_add _];have hH13:HP Tr w _ [rowT pv7 t.length cp7 t]:=hA7;refine WL.z (.slice pv7 t.length cp7) 2 (WL.k hK9 (WC.ret ?_));refine WQ.ret1 2 rfl rfl ?_;exact⟨pv7,cp7,rfl,hH13⟩
end Ca
end Go.Proofs.YtmjnakhpekbenaaGreat
namespace Go.Proofs.YtmjnakhpekbenaaGreat
set_option maxRecDepth 20000
set_option maxHeartbeats 4000000
open Go.RowKit Fw
namespace Ca
theorem rJ_nil:∀ t:List T2,rJ true t []=t
  | []=>by rw [rJ]
  | p::r=>by rw [rJ,rJ_nil r];rfl
theorem take_snoc {u:List T2} {i:Nat} (h:i<u.length):u.take (i+1)=u.take i++[(lnT u i,agT u i)]:=by
  rw [List.take_succ_eq_append_getElem h,lnT_get h,agT_get h]
theorem sT_take {u:List T2} (h:sT u) (i:Nat):sT (u.take i):=List.Pairwise.sublist (List.take_sublist i u) h
theorem rJ_len:∀ (may:Bool) (t u:List T2),(rJ may t u).length≤t.length+u.length
  | may,[],[]=>by rw [rJ];simp
  | may,p::r,[]=>by
    have:=rJ_len may r [];rw [rJ];cases may <;> simp at this ⊢ <;> omega
  | may,[],q::v=>by
    have:=rJ_len may [] v;rw [rJ];cases may <;> simp at this ⊢ <;> omega
  | may,p::r,q::v=>by
    have h1:=rJ_len may r (q::v);have h2:=rJ_len may (p::r) v;have h3:=rJ_len may r v;rw [rJ];split
    · cases may <;> simp at h1 ⊢ <;> omega
    · split
      · cases may <;> simp at h2 ⊢ <;> omega
      · simp at h3 ⊢;omega
termination_by _ t u=>t.length+u.length
theorem cur_at {cur:Array Value} {t:List T2} {k:Nat} (h:cur.toList.take (t.length*2)=tL t) (hk:k<t.length):cur[k*2+1]?=some (vI (agT t k)):=by
  have h2:=(tL_at hk).2;rw [← h,List.getElem?_take] at h2;split at h2
  · rw [← Array.getElem?_toList];exact h2
  · cases h2
theorem cur_set {cur:Array Value} {t:List T2} {k:Nat} {v:Int} (h:cur.toList.take (t.length*2)=tL t) (hk:k<t.length):(cur.setIfInBounds (k*2+1) (vI v)).toList.take (t.length*2)=tL (t.set k (lnT t k,v)):=by
  have e1:tL (t.set k (lnT t k,v))=(tL t).set (k*2+1) (vI v):=by
    refine List.ext_getElem? fun j=>?_;by_cases hj:j/2<t.length
    · have g1 := tL_at (t := t) (i := j / 2) hj
      have g2:=tL_at (t:=t.set k (lnT t k,v)) (i:=j/2) (by simpa using hj);rw [List.getElem?_set];have hl:k*2+1<(tL t).length:=(by rw [tL_len];omega);rcases Nat.mod_two_eq_zero_or_one j with h | h
      · have e : j / 2 * 2 = j := by omega
        rw [e] at g1 g2;rw [g2.1,if_neg (by omega),g1.1]
        congr 2
        simp only [List.getD_eq_getElem?_getD,List.getElem?_set];split
        · rename_i q;subst q;simp [hj,lnT,List.getD_eq_getElem?_getD]
        · rfl
      · have e : j / 2 * 2 + 1 = j := by omega
        rw [e] at g1 g2;rw [g2.2];by_cases q:k=j/2
        · rw [if_pos (by omega), if_pos (by omega)]
          congr 2
          simp only [List.getD_eq_getElem?_getD,List.getElem?_set];rw [if_pos q,if_pos (by omega)];rfl
        · rw [if_neg (by omega), g1.2]
          congr 2
          simp only [List.getD_eq_getElem?_getD,List.getElem?_set];rw [if_neg q]
    · rw [List.getElem?_eq_none (by rw [tL_len,List.length_set];omega),List.getElem?_eq_none (by rw [List.length_set,tL_len];omega)]
  rw [e1,← h,Array.toList_setIfInBounds,List.take_set]
theorem joinMay_any (p p2:Option Addr) (t u:List T2) (cp cp2:Nat) (w:World) (hT:InT w p t) (hU:InT w p2 u) (hn:t.length≤100000) (hn2:u.length≤100000) (hs:sT t) (hs2:sT u) :
  Calls Tryz.prog 24 #[.slice p t.length cp,.slice p2 u.length cp2] w fun e w'=>∃ pv cp',e=.returned (.slice pv (rJ true t u).length cp')∧HP Tr w w' [rowT pv (rJ true t u).length cp' (rJ true t u)]:=by
 refine calls_of Tryz.func24 rfl (m:=45) rfl [(0,.slice p t.length cp),(1,.slice p2 u.length cp2)] (Fr_enter [.slice p t.length cp,.slice p2 u.length cp2] 45 (Nat.le_of_ble_eq_true rfl)) ?_;have hH1:HP Tr w w []:=HP.refl w;refine WC.seq fun K2 hK2=>WC.region (WL.z (.slice none 0 0) 4 (WL.k hK2 (WC.seq fun K3 hK3=>WC.region (WL.z (.slice p t.length cp) 10 ?_))));refine WL.c 42 #[.slice p t.length cp] 11 ?_;refine(CloneT_any p t cp _ (hT.below (HP.below hH1)) hn).mono ?_;rintro e w3 ⟨pv0,cp0,rfl,hb⟩;refine⟨_,rfl,?_⟩;have hH4:HP Tr w _ [rowT pv0 t.length cp0 t]:=HP.trans hH1 hb;refine WL.z (.slice pv0 t.length cp0) 5 (WL.k hK3 (WC.seq fun K5 hK5=>WC.seq fun K6 hK6=>WC.region (WL.z (.slice p2 u.length cp2) 12 (WL.z (vI (u.length:Int)) 13 (WL.z (vI 0) 14 (WL.nil (WQ.then ?_)))))));refine hK6 _ _ _ (WC.block ?_);refine WC.loop (fun kk0 ll0 ww0=>∃ (i:Nat) (A:List T2) (pv:Option Addr) (cp3:Nat),ll0=[(0,.slice p t.length cp),(1,.slice p2 u.length cp2),(5,.slice pv A.length cp3),(12,.slice p2 u.length cp2),(13,vI (u.length:Int)),(14,vI (i:Int))]∧kk0=u.length-i∧(i≤u.length)∧(A=rJ true t (u.take i))∧HP Tr w ww0 [rowT pv A.length cp3 A]) (u.length) [(0,.slice p t.length cp),(1,.slice p2 u.length cp2),(5,.slice pv0 t.length cp0),(12,.slice p2 u.length cp2),(13,vI (u.length:Int)),(14,vI 0)] ⟨rfl,rfl,rfl,rfl,rfl,rfl,trivial⟩ ⟨0,t,pv0,cp0,rfl,rfl,Nat.zero_le _,by rw [List.take_zero,rJ_nil],hH4⟩ ?_;rintro kk l w8 ⟨i,A,pv,cp3,rfl,hkk,hi,hA,hH9⟩ K7 hK7;refine WC.seq fun K10 hK10=>WC.region ?_;by_cases h15:(i:Int)<(u.length:Int)
 ·
  refine WL.y (.bool true) 15 (x_lss rfl rfl rfl (dT (h15))) (WL.k hK10 (WC.seq fun K11 hK11=>?_));refine WC.yes rfl ?_;refine WC.skip (WQ.then (hK11 _ _ _ (WC.seq fun K12 hK12=>WC.block (WC.seq fun K13 hK13=>?_))));obtain⟨g2,o2,rfl,hrow2⟩:=hU (by omega);refine WC.region (WL.y (vP g2 (o2+i*2)) 16 (x_ix (i) (o2+i*2) Tryz.underlying64 sz67) (WL.y (.agg #[vI (lnT u i),vI (agT u i)]) 17 (x_loadS (cs:=[vI (lnT u i),vI (agT u i)]) rfl rfl Tryz.underlying67 rfl sz67 (HP.oldRange hH9 trivial (hrow2 i (by omega)))) ?_));refine WL.alloc (c:=#[vI 0,vI 0]) (T:=67) hH9 7 rfl (by decide) rfl rfl (fun b7=>vP b7 0) (by kernel_rfl) (fun b7 w14 hw14=>?_);have hH15:HP Tr w w14 [rowT pv A.length cp3 A,.cel b7 #[vI 0,vI 0] 67]:=hw14.2;have nb7:=hw14.1;clear hw14;refine WL.storeS (H2:=[rowT pv A.length cp3 A,.cel b7 #[vI (lnT u i),vI (agT u i)] 67]) 1 hH15 rfl rfl rfl rfl rfl rfl sz67 rfl (Nat.le_of_ble_eq_true rfl) rfl rfl ?_;intro w16 hH17;refine WL.k hK13 (WC.seq fun K18 hK18=>WC.region (WL.z (.slice pv A.length cp3) 19 (WL.y (vP b7 0) 20 (x_idxArr (0) (0) rfl rfl rfl Tryz.underlying67 sz3 (by omega) (by omega) (by omega)) (WL.y (vI (lnT u i)) 21 (x_load rfl rfl Tryz.underlying3 rfl (HP.cell hH17 1 rfl rfl)) ?_))));have hAs:sT A:=(by rw [hA];exact sT_rJ hs (sT_take hs2 i));have hA9:=rJ_len true t (u.take i);rw [← hA,List.length_take] at hA9;refine WL.c 37 #[.slice pv A.length cp3,vI (lnT u i)] 22 ?_;refine(find_any _ A _ _ (InT.own (HP.get hH17 0 rfl)) (lnT u i) (by omega)).mono ?_;rintro e w19 ⟨k,fb,rfl,hk1,hk2,hk3,hfb,hb20⟩;refine⟨_,rfl,?_⟩;have hH21:=HP.call hH17 hb20;refine WL.z (.tuple #[vI (k:Int),.bool fb]) 18 (WL.z (vI (k:Int)) 23 (WL.z (.bool fb) 24 (WL.z (vI (k:Int)) 8 (WL.z (.bool fb) 9 (WL.k hK18 (WC.sb [(0,.slice p t.length cp),(1,.slice (some ⟨g2,o2,none⟩) u.length cp2),(5,.slice pv A.length cp3),(7,vP b7 0),(8,vI (k:Int)),(9,.bool fb),(12,.slice (some ⟨g2,o2,none⟩) u.length cp2),(13,vI (u.length:Int)),(14,vI (i:Int)),(15,.bool true)] (WC.seq fun K22 hK22=>WC.seq fun K23 hK23=>WC.region ?_)))))))
  refine WL.z (.bool fb) 25 (WL.k hK23 ?_);rcases Bool.eq_false_or_eq_true (fb) with c_fb | c_fb
  ·
   rw [c_fb] at hfb;obtain⟨hk4,hk5⟩:=of_decide_eq_true hfb.symm;obtain⟨-,-,hpv⟩:=own_le (HP.get hH21 0 rfl);obtain⟨ga,rfl⟩:∃ g,pv=some ⟨g,0,none⟩:=(by rcases hpv with h | h;omega;exact h);obtain⟨cur,hC9,hnc,hcm,hcs,htk⟩:=HP.ownToCel hH21 0 rfl;have hcell:=cur_at htk hk4;have hH24:HP Tr w _ [.cel ga cur 67,.cel b7 #[vI (lnT u i),vI (agT u i)] 67]:=hC9;refine WC.yes (congrArg (fun b=>some (Value.bool b)) c_fb) ?_;refine WC.seq fun K25 hK25=>?_;refine WC.confG (γ:=Unit) [(25,.bool fb),(0,.slice p t.length cp),(1,.slice (some ⟨g2,o2,none⟩) u.length cp2),(5,vS ga A.length cp3),(7,vP b7 0),(8,vI (k:Int)),(9,.bool fb),(12,.slice (some ⟨g2,o2,none⟩) u.length cp2),(13,vI (u.length:Int)),(14,vI (i:Int)),(15,.bool true)] (fun gy=>[vS ga A.length cp3,vI (k:Int),vS ga A.length cp3,vI (k:Int),vP ga (k*2),vP ga (k*2+1),vI (agT A k),vP b7 1,vI (agT u i),vI (min (agT A k) (agT u i)),vP ga (k*2),vP ga (k*2+1),undef]) (fun gy D wz=>HP Tr w wz [(bif D 12 then Ent.cel ga (cur.setIfInBounds (k*2+1) (vI (min (agT A k) (agT u i)))) 67 else Ent.cel ga cur 67),.cel b7 #[vI (lnT u i),vI (agT u i)] 67]) () (by kernel_rfl) ⟨rfl,rfl,rfl,rfl,rfl,rfl,rfl,rfl,rfl,rfl,rfl,trivial⟩ (by kernel_rfl) (by kernel_rfl) (by kernel_rfl) (fun _=>rfl) (by kernel_rfl) (HP.drew hH24) ?_ ?_
   ·
    refine AllOk.cons ?o0 (AllOk.cons ?o1 (AllOk.cons ?o2 (AllOk.cons ?o3 (AllOk.cons ?o4 (AllOk.cons ?o5 (AllOk.cons ?o6 (AllOk.cons ?o7 (AllOk.cons ?o8 (AllOk.cons ?o9 (AllOk.cons ?o10 (AllOk.cons ?o11 (AllOk.cons ?o12 (AllOk.nil _)))))))))))))
    case o0 =>
     intro gy D wz hDi hdep hclo hW;exact cfv gy wz (by kernel_rfl) hW
    case o1 =>
     intro gy D wz hDi hdep hclo hW;exact cfv gy wz (by kernel_rfl) hW
    case o2 =>
     intro gy D wz hDi hdep hclo hW;exact cfv gy wz (by kernel_rfl) hW
    case o3 =>
     intro gy D wz hDi hdep hclo hW;exact cfv gy wz (by kernel_rfl) hW
    case o4 =>
     intro gy D wz hDi hdep hclo hW;exact cfv gy wz (x_idx (k) (k*2) rfl rfl rfl Tryz.underlying64 sz67 (by omega) (hk4) (by omega)) hW
    case o5 =>
     intro gy D wz hDi hdep hclo hW;exact cfv gy wz (x_idxArr (1) (k*2+1) rfl rfl rfl Tryz.underlying67 sz3 (by omega) (by omega) (by omega)) hW
    case o6 =>
     intro gy D wz hDi hdep hclo hW;have d12:D 12=false:=by
      cases h:D 12 with
      | false=>rfl
      | true=>exact absurd (hclo 12 _ rfl h ⟨6,.phase⟩ (by simp) rfl) (by rw [hDi];exact Bool.false_ne_true)
     have hW2:=hW;simp only [d12,cond_false] at hW2;exact cfv gy wz (x_load rfl rfl Tryz.underlying3 rfl (HP.cell hW2 0 rfl hcell)) hW
    case o7 =>
     intro gy D wz hDi hdep hclo hW;exact cfv gy wz (x_idxArr (1) (1) rfl rfl rfl Tryz.underlying67 sz3 (by omega) (by omega) (by omega)) hW
    case o8 =>
     intro gy D wz hDi hdep hclo hW;exact cfv gy wz (x_load rfl rfl Tryz.underlying3 rfl (HP.cell hW 1 rfl rfl)) hW
    case o9 =>
     intro gy D wz hDi hdep hclo hW;exact cfv gy wz (x_min (Z:=min (agT A k) (agT u i)) (t:=0) rfl rfl rfl (by simp only [Int.min_def];split <;> split <;> omega)) hW
    case o10 =>
     intro gy D wz hDi hdep hclo hW;exact cfv gy wz (x_idx (k) (k*2) rfl rfl rfl Tryz.underlying64 sz67 (by omega) (hk4) (by omega)) hW
    case o11 =>
     intro gy D wz hDi hdep hclo hW;exact cfv gy wz (x_idxArr (1) (k*2+1) rfl rfl rfl Tryz.underlying67 sz3 (by omega) (by omega) (by omega)) hW
    case o12 =>
     intro gy D wz hDi hdep hclo hW;have hW9:=hW;simp only [hDi,cond_false] at hW9;have h4:=HP.set (off:=k*2+1) (v:=vI (min (agT A k) (agT u i))) hW9 0 rfl;exact .inl ⟨rfl,rfl,.inr (.inl ⟨_,x_store rfl rfl rfl sz3 rfl (HP.cell hW9 0 rfl hcell) (HP.free hW9 0 rfl),rfl,h4⟩)⟩
   rintro gy D w26 hall hH27;simp only [hall 12 (by kernel_rfl),cond_true,List.append_nil,List.nil_append,List.cons_append] at hH27;clear hall;refine WQ.sb [(0,.slice p t.length cp),(1,.slice (some ⟨g2,o2,none⟩) u.length cp2),(5,vS ga A.length cp3),(7,vP b7 0),(8,vI (k:Int)),(9,.bool fb),(12,.slice (some ⟨g2,o2,none⟩) u.length cp2),(13,vI (u.length:Int)),(14,vI (i:Int)),(15,.bool true),(25,.bool fb)] (WQ.then (hK25 _ _ _ (WC.exit (WQ.thenExit (WQ.inExit (WQ.then (hK12 _ _ _ (WC.region (WL.y (vI ((i+1:Nat):Int)) 43 (x_ad (((i+1:Nat):Int))) (WL.z (vI ((i+1:Nat):Int)) 14 (WL.nil ?_)))))))))));have hO9:=HP.celToOwn (HP.drop hH27 1) 0 (k:=A.length) (cap:=cp3) (s:=2) rfl hnc hcm (by simp;exact hcs);rw [cur_set htk hk4] at hO9;have hl9:A.length=(A.set k (lnT A k,min (agT A k) (agT u i))).length:=(by rw [List.length_set]);rw [show vS ga A.length cp3=vS ga (A.set k (lnT A k,min (agT A k) (agT u i))).length cp3 by rw [List.length_set]];refine WQ.sb [(0,.slice p t.length cp),(1,.slice (some ⟨g2,o2,none⟩) u.length cp2),(5,.slice (some ⟨ga,0,none⟩) ((A.set k (lnT A k,min (agT A k) (agT u i))).length) cp3),(12,.slice (some ⟨g2,o2,none⟩) u.length cp2),(13,vI (u.length:Int)),(14,vI ((i+1:Nat):Int))] ?_;refine WQ.then (hK7 _ _ _ (by omega) ⟨i+1,(A.set k (lnT A k,min (agT A k) (agT u i))),(some ⟨ga,0,none⟩),cp3,rfl,rfl,by omega,by rw [take_snoc (by omega),rJ_snoc hs (by rw [← take_snoc (by omega)];exact sT_take hs2 _),← hA];have h9:=set_rJ (x:=(lnT u i,agT u i)) hAs hk4 hk5;rw [hk5];exact h9,(HP.eq hO9 (by rw [List.length_set];rfl))⟩)
  ·
   rw [c_fb] at hfb;have hno:=of_decide_eq_false hfb.symm;have hlt9:k<A.length→lnT u i<lnT A k:=fun h9=>by have h8:=hk3 h9;by_cases e:lnT A k=lnT u i;exact absurd ⟨h9,e⟩ hno;omega
   refine WC.no (congrArg (fun b=>some (Value.bool b)) c_fb) ?_;refine WC.skip (WQ.then (hK22 _ _ _ (WC.region (WL.z (.slice pv A.length cp3) 38 (WL.z (vI (k:Int)) 39 (WL.y (.agg #[vI (lnT u i),vI (agT u i)]) 40 (x_loadS (cs:=[vI (lnT u i),vI (agT u i)]) rfl rfl Tryz.underlying67 rfl sz67 (HP.range hH21 1 rfl rfl)) ?_))))));refine WL.alloc (c:=#[vI (lnT u i),vI (agT u i)]) (T:=67) hH21 41 rfl (by decide) rfl rfl (fun b41=>vS b41 1 1) (by kernel_rfl) (fun b41 w28 hw28=>?_);have hH29:HP Tr w w28 [rowT pv A.length cp3 A,.cel b7 #[vI (lnT u i),vI (agT u i)] 67,.cel b41 #[vI (lnT u i),vI (agT u i)] 67]:=hw28.2;have nb41:=hw28.1;clear hw28;have hP9:=HP.perm hH29 (List.Perm.cons _ (List.Perm.swap _ _ _));refine WL.c 43 #[.slice pv A.length cp3,vI (k:Int),vS b41 1 1] 42 ?_;refine(Insert_any pv cp3 b41 k A (lnT u i,agT u i) _ (HP.ownF (A:=[rowT pv A.length cp3 A,Go.Proofs.YtmjnakhpekbenaaGreat.Fw.Ent.cel b41 #[vI (lnT u i),vI (agT u i)] 67]) (B:=[Go.Proofs.YtmjnakhpekbenaaGreat.Fw.Ent.cel b7 #[vI (lnT u i),vI (agT u i)] 67]) hP9) hk1 (by omega)).mono ?_;rintro e w6 ⟨pv6,cp6,rfl,hb6⟩;refine⟨_,rfl,?_⟩;have hH30:HP Tr w _ [rowT pv6 (insT A k (lnT u i,agT u i)).length cp6 (insT A k (lnT u i,agT u i))]:=HP.sub (HP.exchF (A:=[rowT pv A.length cp3 A,Go.Proofs.YtmjnakhpekbenaaGreat.Fw.Ent.cel b41 #[vI (lnT u i),vI (agT u i)] 67]) (B:=[Go.Proofs.YtmjnakhpekbenaaGreat.Fw.Ent.cel b7 #[vI (lnT u i),vI (agT u i)] 67]) hP9 hb6) (List.Sublist.cons_cons _ (List.nil_sublist _));refine WL.z (.slice pv6 ((insT A k (lnT u i,agT u i)).length) cp6) 5 (WL.nil (WQ.inNormal (WQ.then (hK12 _ _ _ (WC.sb [(0,.slice p t.length cp),(1,.slice (some ⟨g2,o2,none⟩) u.length cp2),(5,.slice pv6 ((insT A k (lnT u i,agT u i)).length) cp6),(7,vP b7 0),(8,vI (k:Int)),(9,.bool fb),(12,.slice (some ⟨g2,o2,none⟩) u.length cp2),(13,vI (u.length:Int)),(14,vI (i:Int)),(15,.bool true),(25,.bool fb)] (WC.region (WL.y (vI ((i+1:Nat):Int)) 43 (x_ad (((i+1:Nat):Int))) (WL.z (vI ((i+1:Nat):Int)) 14 (WL.nil (WQ.sb [(0,.slice p t.length cp),(1,.slice (some ⟨g2,o2,none⟩) u.length cp2),(5,.slice pv6 ((insT A k (lnT u i,agT u i)).length) cp6),(12,.slice (some ⟨g2,o2,none⟩) u.length cp2),(13,vI (u.length:Int)),(14,vI ((i+1:Nat):Int))] ?_))))))))))
   refine WQ.then (hK7 _ _ _ (by omega) ⟨i+1,(insT A k (lnT u i,agT u i)),pv6,cp6,rfl,rfl,by omega,by rw [take_snoc (by omega),rJ_snoc hs (by rw [← take_snoc (by omega)];exact sT_take hs2 _),← hA];exact ins_rJ (x:=(lnT u i,agT u i)) hAs hk1 hk2 hlt9,hH30⟩)
 ·
  refine WL.y (.bool false) 15 (x_lss rfl rfl rfl (dF (h15))) (WL.k hK10 (WC.seq fun K31 hK31=>?_));refine WC.no rfl ?_;refine WC.exit (WQ.thenExit (WQ.thenExit (WQ.inExit (WQ.then (hK5 _ _ _ (WC.seq fun K32 hK32=>?_))))));have hR:rJ true t u=A:=(by rw [hA,List.take_of_length_le (by omega)]);refine WC.region (WL.z (.slice pv A.length cp3) 44 (WL.z (.slice pv A.length cp3) 4 (WL.k hK32 (WC.ret ?_))));refine WQ.ret1 4 rfl rfl ?_;exact⟨pv,cp3,by rw [hR],by rw [hR];exact HP.eq hH9 rfl⟩
end Ca
end Go.Proofs.YtmjnakhpekbenaaGreat
namespace Go.Proofs.YtmjnakhpekbenaaGreat
set_option maxRecDepth 20000
set_option maxHeartbeats 4000000
open Go.RowKit Fw
namespace Ca
def jK (K:Bool):List T2→List T2→List T2:=bif K then rJ true else jM
def kK (K:Bool):Int:=bif K then 1 else 0
def muK (K:Bool) (y:Int):List T2→Nat:=bif K then muN y else muM y
def leK (K:Bool):List T2→List T2→Prop:=bif K then leN else leM
def opsK (K:Bool) (s y l:Int):Fl.Ops (List T2):=⟨jK K,fun i t=>tcH s y ((i:Int)/l) (kK K) t,muK K y⟩
def fhK (K:Bool):Nat:=bif K then 23 else 19
def fjK (K:Bool):Nat:=bif K then 24 else 20
theorem touchK_any (K:Bool) (p:Option Addr) (t:List T2) (cp:Nat) (s y l m x:Int) (w:World) (hT:InT w p t) (hV:VT s y l m t) :
    Calls Tryz.prog (fhK K) #[.agg #[vI s,vI y,vI l,vI m],.slice p t.length cp,vI x] w (TcR s y x (kK K) t w):=by
  cases K
  · exact touch0_any p t cp s y l m x w hT hV
  · exact touch1_any p t cp s y l m x w hT hV
theorem joinK_any (K:Bool) (p p2:Option Addr) (t u:List T2) (cp cp2:Nat) (w:World) (hT:InT w p t) (hU:InT w p2 u) (hn:t.length≤100000) (hn2:u.length≤100000) (hs:sT t) (hs2:sT u) :
    Calls Tryz.prog (fjK K) #[.slice p t.length cp,.slice p2 u.length cp2] w fun e w'=>∃ pv cp',e=.returned (.slice pv (jK K t u).length cp')∧HP Tr w w' [rowT pv (jK K t u).length cp' (jK K t u)]:=by
  cases K
  · exact joinMust_any p p2 t u cp cp2 w hT hU hn hn2 hs2
  · exact joinMay_any p p2 t u cp cp2 w hT hU hn hn2 hs hs2
theorem VT_jK (K:Bool) {s y l m:Int} {t u:List T2} (ht:VT s y l m t) (hu:VT s y l m u):VT s y l m (jK K t u):=by
  cases K
  · exact VT_jM ht hu
  · exact VT_rJ ht hu
theorem jK_left (K:Bool) {a b:List T2} (ha:sT a) (hb:sT b):leK K a (jK K a b):=by
  cases K
  · exact jM_left ha
  · exact rJ_left ha hb
theorem mu_ltK (K:Bool) {s y l m:Int} (a b:List T2) (ha:VT s y l m a) (hb:VT s y l m b) (h:leK K a b) (hne:a≠b):(opsK K s y l).mu b<(opsK K s y l).mu a:=by
  cases K
  · have h1 := muM_lt ha hb (show leM a b from h) hne
    dsimp only [opsK,muK,cond_false];exact h1
  · have h1 := muN_lt ha hb (show leN a b from h) hne
    dsimp only [opsK,muK,cond_true];exact h1
theorem doK_any (K:Bool) (s y l m:Int) (i:Nat) (q:Option Addr) (t:List T2) (cp b6 b4:Nat) (w:World) (h6:w.cell? ⟨b6,0,none⟩=some (.func (.func (fhK K)) #[] #[])) (h4:w.rangeAt b4 0 [vI s,vI y,vI l,vI m]) (hT:InT w q t) (hV:VT s y l m t) (hi:i≤999) :
  Calls Tryz.prog 33 #[vI (i:Int),.slice q t.length cp,vP b6 0,vP b4 0] w (TcR s y ((i:Int)/l) (kK K) t w):=by
 have hl9:=hV.l1;have hl8:=hV.l2;have hx9:=line_of ⟨hl9,hl8⟩ hi;refine calls_of Tryz.func33 rfl (m:=15) rfl [(0,vI (i:Int)),(1,.slice q t.length cp),(2,vP b6 0),(3,vP b4 0)] (Fr_enter [vI (i:Int),.slice q t.length cp,vP b6 0,vP b4 0] 15 (Nat.le_of_ble_eq_true rfl)) ?_;have hH1:HP Tr w w []:=HP.refl w;refine WC.seq fun K2 hK2=>WC.region (WL.z (.slice none 0 0) 6 (WL.k hK2 (WC.seq fun K3 hK3=>?_)));refine WC.confG (γ:=Option Addr × Nat × Unit) [(0,vI (i:Int)),(1,.slice q t.length cp),(2,vP b6 0),(3,vP b4 0)] (fun gy=>[.func (.func (fhK K)) #[] #[],.agg #[vI s,vI y,vI l,vI m],.slice q t.length cp,vI (i:Int),vP b4 2,vI l,vI ((i:Int)/l),.slice gy.1 ((tcH s y ((i:Int)/l) (kK K) t).length) gy.2.1,.slice gy.1 ((tcH s y ((i:Int)/l) (kK K) t).length) gy.2.1]) (fun gy D wz=>HP Tr w wz ([]++((bif D 7 then [rowT gy.1 (tcH s y ((i:Int)/l) (kK K) t).length gy.2.1 (tcH s y ((i:Int)/l) (kK K) t)] else [])++[]))) (none,0,()) (by kernel_rfl) ⟨rfl,rfl,rfl,rfl,trivial⟩ (by kernel_rfl) (by kernel_rfl) (by kernel_rfl) (fun _=>rfl) (by kernel_rfl) (HP.drew hH1) ?_ ?_
 ·
  refine AllOk.cons ?o0 (AllOk.cons ?o1 (AllOk.cons ?o2 (AllOk.cons ?o3 (AllOk.cons ?o4 (AllOk.cons ?o5 (AllOk.cons ?o6 (AllOk.cons ?o7 (AllOk.cons ?o8 (AllOk.nil _)))))))))
  case o0 =>
   intro gy D wz hDi hdep hclo hW;exact cfv gy wz (x_load rfl rfl Tryz.underlying44 rfl (HP.old hW trivial h6)) hW
  case o1 =>
   intro gy D wz hDi hdep hclo hW;exact cfv gy wz (x_loadS (cs:=[vI s,vI y,vI l,vI m]) rfl rfl Tryz.underlying23 rfl sz23 (HP.oldRange hW trivial h4)) hW
  case o2 =>
   intro gy D wz hDi hdep hclo hW;exact cfv gy wz (by kernel_rfl) hW
  case o3 =>
   intro gy D wz hDi hdep hclo hW;exact cfv gy wz (by kernel_rfl) hW
  case o4 =>
   intro gy D wz hDi hdep hclo hW;exact cfv gy wz (by kernel_rfl) hW
  case o5 =>
   intro gy D wz hDi hdep hclo hW;exact cfv gy wz (x_load rfl rfl Tryz.underlying3 rfl ((HP.oldRange hW trivial h4) 2 _ rfl)) hW
  case o6 =>
   intro gy D wz hDi hdep hclo hW;exact cfv gy wz (x_quo rfl rfl rfl (by omega) (tdiv_pos (by omega) (by omega)) (by have:=hx9;omega) (by have:=hx9;omega)) hW
  case o7 =>
   intro gy D wz hDi hdep hclo hW;have d8:D 8=false:=by
    cases h:D 8 with
    | false=>rfl
    | true=>exact absurd (hclo 8 _ rfl h ⟨7,.data⟩ (by simp) rfl) (by rw [hDi];exact Bool.false_ne_true)
   have hW2:=hW
   try simp only [hDi,cond_true,cond_false,List.append_nil,List.nil_append,List.cons_append] at hW2
   refine .inl ⟨rfl,rfl,.inr (.inr ⟨(fhK K),#[.agg #[vI s,vI y,vI l,vI m],.slice q t.length cp,vI ((i:Int)/l)],by cases K <;> kernel_rfl,(touchK_any K q t cp s y l m ((i:Int)/l) _ (hT.below (HP.below hW2)) hV).mono ?_⟩)⟩;rintro e w3 ⟨pv,cp9,rfl,hb9⟩;have hA:=HP.trans hW2 hb9;refine⟨⟨pv,cp9,()⟩,fun j hj=>?_,rfl,?_⟩
   ·
    match j,hj with
    | 0,hj=>rfl
    | 1,hj=>rfl
    | 2,hj=>rfl
    | 3,hj=>rfl
    | 4,hj=>rfl
    | 5,hj=>rfl
    | 6,hj=>rfl
    | 7,hj=>rw [hDi] at hj;cases hj
    | 8,hj=>exact absurd hj (by rw [d8];exact Bool.false_ne_true)
    | j+9,_=>rfl
   ·
    show HP Tr w w3 ([]++([rowT pv (tcH s y ((i:Int)/l) (kK K) t).length cp9 (tcH s y ((i:Int)/l) (kK K) t)]++[]))
    try simp only [cond_true,cond_false,List.append_nil,List.nil_append,List.cons_append]
    exact hA
  case o8 =>
   intro gy D wz hDi hdep hclo hW;exact cfv gy wz (by kernel_rfl) hW
 rintro ⟨pv,cp9,gu⟩ D w4 hall hH5;simp only [hall 7 (by kernel_rfl),cond_true,List.append_nil,List.nil_append,List.cons_append] at hH5;clear hall;refine WQ.sb [(0,vI (i:Int)),(1,.slice q t.length cp),(6,.slice pv ((tcH s y ((i:Int)/l) (kK K) t).length) cp9)] (WQ.then (hK3 _ _ _ (WC.ret ?_)));refine WQ.ret1 6 rfl rfl ?_;exact⟨pv,cp9,rfl,hH5⟩
def BrPK (K:Bool) (s y l m:Int) (pb:Nat) (cq:Option Addr) (n cap b6 b4 ga:Nat) (c A B:Nat→Int) (i E:Nat) (Rb:Fl.Tr):Prop:=∀ (w:World) (T:Nat→TbI) (r:TbI),Env s y l m pb cq n cap b6 b4 (fhK K) (fjK K) ga c A B w T→TbOk s y l m w r→(∀ i,TbOk s y l m w (T i))→Calls Tryz.prog 88 #[vP pb 0,vI (i:Int),vI (-1),vI (E:Int),tbV r] w (TabR s y l m pb cq n cap b6 b4 (fjK K) ga T (brkP (opsK K s y l) (cdOf c n) i E (Fl.sol (opsK K s y l) (cdOf c n) Rb) r.t (tabs T)) w)
def BrAK (K:Bool) (s y l m:Int) (pb:Nat) (cq:Option Addr) (n cap b6 b4 ga:Nat) (c A B:Nat→Int) (i a E:Nat) (Ra Rb:Fl.Tr):Prop:=∀ (w:World) (T:Nat→TbI) (r:TbI),Env s y l m pb cq n cap b6 b4 (fhK K) (fjK K) ga c A B w T→TbOk s y l m w r→(∀ i,TbOk s y l m w (T i))→Calls Tryz.prog 88 #[vP pb 0,vI (i:Int),vI (a:Int),vI (E:Int),tbV r] w (TabR s y l m pb cq n cap b6 b4 (fjK K) ga T (brkA (opsK K s y l) (cdOf c n) i a E (Fl.sol (opsK K s y l) (cdOf c n) Ra) (Fl.sol (opsK K s y l) (cdOf c n) Rb) r.t (tabs T)) w)
theorem listK_any (K:Bool) (s y l m:Int) (pb:Nat) (cq:Option Addr) (n cap b6 b4 ga:Nat) (c A B:Nat→Int) (hg0:vG s y l m=true) (hc:Ec.chk c A B false n=0) (R:Fl.Tr) (k j:Nat) (hIs0:Fl.Is (cdOf c n) R k j) (hjn:j≤n) (hbr0:BrAll (BrPK K s y l m pb cq n cap b6 b4 ga c A B) (BrAK K s y l m pb cq n cap b6 b4 ga c A B) R) (w:World) (T:Nat→TbI) (r:TbI) (hE:Env s y l m pb cq n cap b6 b4 (fhK K) (fjK K) ga c A B w T) (hr:TbOk s y l m w r) (hT:∀ i,TbOk s y l m w (T i)) :
  Calls Tryz.prog 61 #[vP pb 0,vI (k:Int),vI (j:Int),.slice r.q r.t.length r.c] w (TabR s y l m pb cq n cap b6 b4 (fjK K) ga T (Fl.sol (opsK K s y l) (cdOf c n) R r.t (tabs T)) w):=by
 have hg:=vG_iff.1 hg0;have hn9:=(Ec.chk_ok hc).1;have hkj:=hIs0.le;refine calls_of Tryz.func61 rfl (m:=68) rfl [(0,vP pb 0),(1,vI (k:Int)),(2,vI (j:Int)),(3,.slice r.q r.t.length r.c)] (Fr_enter [vP pb 0,vI (k:Int),vI (j:Int),.slice r.q r.t.length r.c] 68 (Nat.le_of_ble_eq_true rfl)) ?_;refine WC.seq fun K1 hK1=>WC.region (WL.z (.slice none 0 0) 8 (WL.k hK1 (WC.seq fun K2 hK2=>WC.seq fun K3 hK3=>?_)));have hM0:HP (Out [pE pb cq n cap b6 b4 (fjK K) ga,aE ga n T]) w w [pE pb cq n cap b6 b4 (fjK K) ga,aE ga n T]:=HP.startB hE.own;refine WC.region (WL.z (vI (k:Int)) 13 (WL.z (vI (k:Int)) 9 (WL.k hK3 (WC.block ?_))));refine WC.loop (fun kk0 ll0 ww0=>∃ (i:Nat) (R1:Fl.Tr) (r1:TbI) (T1:Nat→TbI),ll0=[(0,vP pb 0),(2,vI (j:Int)),(3,.slice r1.q r1.t.length r1.c),(9,vI (i:Int))]∧kk0=j-i∧(i≤j)∧(Fl.Is (cdOf c n) R1 i j)∧(Fl.sol (opsK K s y l) (cdOf c n) R1 r1.t (tabs T1)=Fl.sol (opsK K s y l) (cdOf c n) R r.t (tabs T))∧(BrAll (BrPK K s y l m pb cq n cap b6 b4 ga c A B) (BrAK K s y l m pb cq n cap b6 b4 ga c A B) R1)∧(TbOk s y l m ww0 r1)∧(∀ i,TbOk s y l m ww0 (T1 i))∧(HP (Out [pE pb cq n cap b6 b4 (fjK K) ga,aE ga n T]) w ww0 [pE pb cq n cap b6 b4 (fjK K) ga,aE ga n T1])∧HP Tr ww0 ww0 []) (j-k) [(0,vP pb 0),(2,vI (j:Int)),(3,.slice r.q r.t.length r.c),(9,vI (k:Int))] ⟨rfl,rfl,rfl,rfl,trivial⟩ ⟨k,R,r,T,rfl,rfl,hkj,hIs0,rfl,hbr0,hr,hT,hM0,HP.refl _⟩ ?_;rintro kk l w5 ⟨i,R1,r1,T1,rfl,hkk,hi,hIs,hsol,hbr,hr1,hT1,hM,hH6⟩ K4 hK4;have hE1:=hE.keep hM;have hH7:=HP.startB hE1.own;refine WC.seq fun K8 hK8=>WC.seq fun K9 hK9=>WC.region (WL.z (vI (i:Int)) 14 (WL.z (vI (j:Int)) 15 ?_));by_cases hlt:(i:Int)<(j:Int)
 ·
  refine WL.y (.bool true) 16 (x_lss rfl rfl rfl (dT (hlt))) (WL.k hK9 ?_);refine WC.yes rfl ?_;refine WC.skip (WQ.then (hK8 _ _ _ (WC.block (WC.seq fun K10 hK10=>?_))));cases R1 with
  | nil=>have e9:i=j:=hIs;omega
  | one i1 R2 =>
   obtain⟨rfl,hno,hIs2⟩:=hIs;have hopn:Ec.opn (c i1)=false:=Ec.opn_no.2 (fun q=>hno ⟨q.1,by have q9:c i1≤33:=q.2;show c i1≤35;omega⟩);have hEj:=hIs2.le;refine WC.region (WL.z (vP pb 0) 17 (WL.z (vP pb 0) 18 (WL.z (vP pb 5) 19 (WL.y (vS ga n n) 20 (x_load rfl rfl Tryz.underlying69 rfl (HP.cell hH7 0 rfl rfl)) (WL.z (vI (i1:Int)) 21 (WL.z (.slice r1.q r1.t.length r1.c) 22 (WL.y (vP ga i1) 23 (x_ix (i1) (i1) Tryz.underlying69 sz64) ?_)))))));refine WL.store (c':=aR n (upA T1 i1 r1)) (H2:=_) 1 hH7 rfl rfl rfl rfl rfl rfl sz64 rfl (by rw [aR_size];omega) (aR_set n i1 T1 r1) rfl ?_;intro w8 hB8;have hB8:HP (Out [pE pb cq n cap b6 b4 (fjK K) ga,aE ga n T1]) w5 w8 [pE pb cq n cap b6 b4 (fjK K) ga,aE ga n (upA T1 i1 r1)]:=hB8;have hE2:=hE1.keep hB8;have hr2:=hE1.tab hr1 hB8;have hT2:∀ i9,TbOk s y l m w8 (upA T1 i1 r1 i9):=fun i9=>by unfold upA;split;exact hr2;exact hE1.tab (hT1 i9) hB8
   have hH11:=HP.startB hE2.own;refine WL.k hK10 (WC.sb [(0,vP pb 0),(2,vI (j:Int)),(3,.slice r1.q r1.t.length r1.c),(9,vI (i1:Int)),(16,.bool true)] (WC.seq fun K12 hK12=>WC.seq fun K13 hK13=>?_));obtain⟨gc,oc,hqc,hrowc⟩:=hE2.code (by omega);have hgc9:=out_int hE2.own (hrowc i1 (by omega) 0 _ rfl);refine WC.region (WL.z (vP pb 0) 24 (WL.z (vP pb 0) 25 (WL.z (vP pb 0) 26 (WL.y (.slice cq n cap) 27 (x_load rfl rfl Tryz.underlying24 rfl (HP.cell hH11 0 rfl rfl)) (WL.z (vI (i1:Int)) 28 (WL.y (vP gc (oc+i1*3)) 29 (x_idx (b:=gc) (off:=oc) i1 (oc+i1*3) rfl (by rw [← hqc];rfl) rfl Tryz.underlying24 sz51 (by omega) (by omega) (by omega)) (WL.z (vP gc (oc+i1*3)) 30 (WL.y (vI (c i1)) 31 (x_load rfl rfl Tryz.underlying3 rfl ((HP.oldRange hH11 hgc9 (hrowc i1 (by omega))) 0 _ rfl)) ?_))))))));refine WL.c 46 #[vI (c i1)] 32 ?_;refine(Opens_at hopn _).mono ?_;rintro e w14 ⟨rfl,rfl⟩;refine⟨_,rfl,?_⟩;refine WL.z (.bool true) 33 (WL.k hK13 (WC.sb [(0,vP pb 0),(2,vI (j:Int)),(3,.slice r1.q r1.t.length r1.c),(9,vI (i1:Int)),(16,.bool true),(33,.bool true)] ?_));refine WC.yes rfl ?_;refine WC.seq fun K15 hK15=>WC.region (WL.z (vP pb 0) 34 (WL.z (vP pb 0) 35 (WL.z (vP pb 1) 36 (WL.y (.func (.func 33) #[] #[vP b6 0,vP b4 0]) 37 (x_load rfl rfl Tryz.underlying65 rfl (HP.cell hH11 0 rfl rfl)) (WL.z (vI (i1:Int)) 38 (WL.z (.slice r1.q r1.t.length r1.c) 39 ?_))))));have hE4:=hE2.keep hH11;refine WL.c 33 #[vI (i1:Int),.slice r1.q r1.t.length r1.c,vP b6 0,vP b4 0] 40 ?_;refine(doK_any K s y l m i1 r1.q r1.t r1.c b6 b4 _ hE4.how hE4.geo (hE2.tab hr2 hH11).inn hr2.ok (by omega)).mono ?_;rintro e w16 ⟨pv9,cp9,rfl,hb17⟩;refine⟨_,rfl,?_⟩;have hH18:HP (Out [pE pb cq n cap b6 b4 (fjK K) ga,aE ga n (upA T1 i1 r1)]) w8 _ [.cel pb #[.slice cq n cap,.func (.func 33) #[] #[vP b6 0,vP b4 0],.func (.func (fjK K)) #[] #[],.func (.func 34) #[] #[],.func (.func 35) #[] #[],vS ga n n] 71,.cel ga (aR n (upA T1 i1 r1)) 64,rowT pv9 (tcH s y ((i1:Int)/l) (kK K) r1.t).length cp9 (tcH s y ((i1:Int)/l) (kK K) r1.t)]:=HP.trans hH11 hb17
   have hr4:TbOk s y l m _ (⟨pv9,(tcH s y ((i1:Int)/l) (kK K) r1.t),cp9⟩:TbI):=⟨InT.own (HP.get hH18 2 rfl),VT_tc hr2.ok (line_of hg.2.2.1 (by omega))⟩;refine WL.z (.slice pv9 ((tcH s y ((i1:Int)/l) (kK K) r1.t).length) cp9) 3 (WL.k hK15 (WC.sb [(0,vP pb 0),(2,vI (j:Int)),(3,.slice pv9 ((tcH s y ((i1:Int)/l) (kK K) r1.t).length) cp9),(9,vI (i1:Int)),(16,.bool true),(33,.bool true)] (WC.seq fun K19 hK19=>WC.region (WL.z (vI (i1:Int)) 41 (WL.y (vI ((i1+1:Nat):Int)) 42 (x_ad (((i1+1:Nat):Int))) (WL.z (vI ((i1+1:Nat):Int)) 9 (WL.nil (WQ.then ?_))))))));refine hK19 _ _ _ (WC.exit (WQ.thenExit (WQ.inExit ?_)));have hF9:HP (Out [pE pb cq n cap b6 b4 (fjK K) ga,aE ga n (upA T1 i1 r1)]) w8 _ [pE pb cq n cap b6 b4 (fjK K) ga,aE ga n (upA T1 i1 r1)]:=HP.drop hH18 2;refine WQ.sb [(0,vP pb 0),(2,vI (j:Int)),(3,.slice pv9 ((tcH s y ((i1:Int)/l) (kK K) r1.t).length) cp9),(9,vI ((i1+1:Nat):Int))] ?_;refine WQ.then (hK4 _ _ _ (by omega) ⟨i1+1,R2,(⟨pv9,(tcH s y ((i1:Int)/l) (kK K) r1.t),cp9⟩:TbI),(upA T1 i1 r1),rfl,rfl,by omega,hIs2,by rw [tabs_up];exact hsol,hbr,hr4,(fun i9=>hE2.tab (hT2 i9) hF9),HP.exch (A:=[]) hM (HP.exch (A:=[]) hB8 hF9),HP.refl _⟩)
  | plain i1 E Rb R2 =>
   obtain⟨rfl,hop,he1,hd1,ho1,h35,hIb,hIs2⟩:=hIs;have hopn:Ec.opn (c i1)=true:=Ec.opn_iff.2 ⟨hop.1,by have q9:c i1≤32:=hop.2;omega⟩;have hEj:=hIs2.le;have hEb:=hIb.le;obtain⟨hm1,hm2⟩:=ma_of hc (show i1<n by omega) hopn;have hm1:Ec.maA c A B n (i1:Int)=-1:=hm1.trans he1;have hm2:Ec.maE c A B n (i1:Int)=(E:Int):=hm2.trans hd1;refine WC.region (WL.z (vP pb 0) 17 (WL.z (vP pb 0) 18 (WL.z (vP pb 5) 19 (WL.y (vS ga n n) 20 (x_load rfl rfl Tryz.underlying69 rfl (HP.cell hH7 0 rfl rfl)) (WL.z (vI (i1:Int)) 21 (WL.z (.slice r1.q r1.t.length r1.c) 22 (WL.y (vP ga i1) 23 (x_ix (i1) (i1) Tryz.underlying69 sz64) ?_)))))));refine WL.store (c':=aR n (upA T1 i1 r1)) (H2:=_) 1 hH7 rfl rfl rfl rfl rfl rfl sz64 rfl (by rw [aR_size];omega) (aR_set n i1 T1 r1) rfl ?_;intro w8 hB8;have hB8:HP (Out [pE pb cq n cap b6 b4 (fjK K) ga,aE ga n T1]) w5 w8 [pE pb cq n cap b6 b4 (fjK K) ga,aE ga n (upA T1 i1 r1)]:=hB8;have hE2:=hE1.keep hB8;have hr2:=hE1.tab hr1 hB8;have hT2:∀ i9,TbOk s y l m w8 (upA T1 i1 r1 i9):=fun i9=>by unfold upA;split;exact hr2;exact hE1.tab (hT1 i9) hB8
   have hH20:=HP.startB hE2.own;refine WL.k hK10 (WC.sb [(0,vP pb 0),(2,vI (j:Int)),(3,.slice r1.q r1.t.length r1.c),(9,vI (i1:Int)),(16,.bool true)] (WC.seq fun K21 hK21=>WC.seq fun K22 hK22=>?_));obtain⟨gc,oc,hqc,hrowc⟩:=hE2.code (by omega);have hgc9:=out_int hE2.own (hrowc i1 (by omega) 0 _ rfl);refine WC.region (WL.z (vP pb 0) 24 (WL.z (vP pb 0) 25 (WL.z (vP pb 0) 26 (WL.y (.slice cq n cap) 27 (x_load rfl rfl Tryz.underlying24 rfl (HP.cell hH20 0 rfl rfl)) (WL.z (vI (i1:Int)) 28 (WL.y (vP gc (oc+i1*3)) 29 (x_idx (b:=gc) (off:=oc) i1 (oc+i1*3) rfl (by rw [← hqc];rfl) rfl Tryz.underlying24 sz51 (by omega) (by omega) (by omega)) (WL.z (vP gc (oc+i1*3)) 30 (WL.y (vI (c i1)) 31 (x_load rfl rfl Tryz.underlying3 rfl ((HP.oldRange hH20 hgc9 (hrowc i1 (by omega))) 0 _ rfl)) ?_))))))));refine WL.c 46 #[vI (c i1)] 32 ?_;refine(Opens_at hopn _).mono ?_;rintro e w23 ⟨rfl,rfl⟩;refine⟨_,rfl,?_⟩;refine WL.z (.bool false) 33 (WL.k hK22 (WC.sb [(0,vP pb 0),(2,vI (j:Int)),(3,.slice r1.q r1.t.length r1.c),(9,vI (i1:Int)),(16,.bool true),(33,.bool false)] ?_));refine WC.no rfl ?_;refine WC.skip (WQ.then (hK21 _ _ _ (WC.seq fun K24 hK24=>WC.region (WL.z (vP pb 0) 44 (WL.z (vP pb 0) 45 (WL.z (vP pb 0) 46 (WL.y (.slice cq n cap) 47 (x_load rfl rfl Tryz.underlying24 rfl (HP.cell hH20 0 rfl rfl)) (WL.z (vI (i1:Int)) 48 ?_))))))));refine WL.c 47 #[.slice cq n cap,vI (i1:Int)] 49 ?_;refine(Match_at hm1 hm2 _ (hE2.keep hH20).code (by omega) (by omega)).mono ?_;rintro e w25 ⟨rfl,hb26⟩;refine⟨_,rfl,?_⟩;have hH27:=HP.call hH20 hb26;refine WL.z (.tuple #[vI (-1),vI (E:Int),vI (Ec.maF c A B n (i1:Int))]) 43 (WL.z (vI (-1)) 50 (WL.z (vI (E:Int)) 51 (WL.z (vI (Ec.maF c A B n (i1:Int))) 52 (WL.z (vI (-1)) 10 (WL.z (vI (E:Int)) 11 (WL.z (vI (Ec.maF c A B n (i1:Int))) 12 (WL.k hK24 (WC.sb [(0,vP pb 0),(2,vI (j:Int)),(3,.slice r1.q r1.t.length r1.c),(9,vI (i1:Int)),(10,vI (-1)),(11,vI (E:Int)),(16,.bool true),(33,.bool false)] (WC.seq fun K28 hK28=>?_)))))))))
   refine WC.region (WL.z (vP pb 0) 53 (WL.z (vI (i1:Int)) 54 (WL.z (vI (-1)) 55 (WL.z (vI (E:Int)) 56 (WL.z (vP pb 0) 57 (WL.z (vP pb 0) 58 (WL.z (vP pb 1) 59 (WL.y (.func (.func 33) #[] #[vP b6 0,vP b4 0]) 60 (x_load rfl rfl Tryz.underlying65 rfl (HP.cell hH27 0 rfl rfl)) (WL.z (vI (i1:Int)) 61 (WL.z (.slice r1.q r1.t.length r1.c) 62 ?_))))))))));have hE4:=hE2.keep hH27;refine WL.c 33 #[vI (i1:Int),.slice r1.q r1.t.length r1.c,vP b6 0,vP b4 0] 63 ?_;refine(doK_any K s y l m i1 r1.q r1.t r1.c b6 b4 _ hE4.how hE4.geo (hE2.tab hr2 hH27).inn hr2.ok (by omega)).mono ?_;rintro e w29 ⟨pv9,cp9,rfl,hb30⟩;refine⟨_,rfl,?_⟩;have hH31:HP (Out [pE pb cq n cap b6 b4 (fjK K) ga,aE ga n (upA T1 i1 r1)]) w8 _ [.cel pb #[.slice cq n cap,.func (.func 33) #[] #[vP b6 0,vP b4 0],.func (.func (fjK K)) #[] #[],.func (.func 34) #[] #[],.func (.func 35) #[] #[],vS ga n n] 71,.cel ga (aR n (upA T1 i1 r1)) 64,rowT pv9 (tcH s y ((i1:Int)/l) (kK K) r1.t).length cp9 (tcH s y ((i1:Int)/l) (kK K) r1.t)]:=HP.trans hH27 hb30;have hr4:TbOk s y l m _ (⟨pv9,(tcH s y ((i1:Int)/l) (kK K) r1.t),cp9⟩:TbI):=⟨InT.own (HP.get hH31 2 rfl),VT_tc hr2.ok (line_of hg.2.2.1 (by omega))⟩;have hE5:=hE2.keep hH31;have hT5:=fun i9=>hE2.tab (hT2 i9) hH31;refine WL.c 88 #[vP pb 0,vI (i1:Int),vI (-1),vI (E:Int),.slice pv9 ((tcH s y ((i1:Int)/l) (kK K) r1.t).length) cp9] 64 ?_;refine(hbr.1 _ _ (⟨pv9,(tcH s y ((i1:Int)/l) (kK K) r1.t),cp9⟩:TbI) hE5 hr4 hT5).mono ?_;rintro e w9 ⟨r9,T9,rfl,hb9,hr9,hT9,hX9⟩;refine⟨_,rfl,?_⟩;have hH32:HP (Out [pE pb cq n cap b6 b4 (fjK K) ga,aE ga n (upA T1 i1 r1)]) w8 _ [.cel pb #[.slice cq n cap,.func (.func 33) #[] #[vP b6 0,vP b4 0],.func (.func (fjK K)) #[] #[],.func (.func 34) #[] #[],.func (.func 35) #[] #[],vS ga n n] 71,.cel ga (aR n T9) 64,rowT pv9 (tcH s y ((i1:Int)/l) (kK K) r1.t).length cp9 (tcH s y ((i1:Int)/l) (kK K) r1.t)]:=HP.exchF (A:=[pE pb cq n cap b6 b4 (fjK K) ga,aE ga n (upA T1 i1 r1)]) (B:=[rowT pv9 (tcH s y ((i1:Int)/l) (kK K) r1.t).length cp9 (tcH s y ((i1:Int)/l) (kK K) r1.t)]) hH31 hb9
   rw [tabs_up] at hX9;refine WL.z (.slice r9.q r9.t.length r9.c) 3 (WL.k hK28 (WC.sb [(0,vP pb 0),(2,vI (j:Int)),(3,.slice r9.q r9.t.length r9.c),(9,vI (i1:Int)),(10,vI (-1)),(11,vI (E:Int)),(16,.bool true),(33,.bool false)] (WC.region (WL.z (vI (E:Int)) 65 (WL.y (vI ((E+1:Nat):Int)) 66 (x_ad (((E+1:Nat):Int))) (WL.z (vI ((E+1:Nat):Int)) 9 (WL.nil (WQ.inNormal ?_))))))));have hF9:HP (Out [pE pb cq n cap b6 b4 (fjK K) ga,aE ga n (upA T1 i1 r1)]) w8 _ [pE pb cq n cap b6 b4 (fjK K) ga,aE ga n T9]:=HP.drop hH32 2;refine WQ.sb [(0,vP pb 0),(2,vI (j:Int)),(3,.slice r9.q r9.t.length r9.c),(9,vI ((E+1:Nat):Int))] ?_;refine WQ.then (hK4 _ _ _ (by omega) ⟨E+1,R2,r9,T9,rfl,rfl,by omega,hIs2,((congrArg (fun X:List T2 × (Nat→List T2)=>Fl.sol (opsK K s y l) (cdOf c n) R2 X.1 X.2) hX9).trans ((sol_plain (opsK K s y l) (cdOf c n) i1 E Rb R2 r1.t (tabs T1)).symm.trans hsol)),hbr.2,hr9,hT9,HP.exch (A:=[]) hM (HP.exch (A:=[]) hB8 hF9),HP.refl _⟩)
  | alt i1 a1 E Ra Rb R2 =>
   obtain⟨rfl,hop,he1,hd1,hoa,ho1,h34,h35,hIa,hIb,hIs2⟩:=hIs;have hopn:Ec.opn (c i1)=true:=Ec.opn_iff.2 (by rcases hop with q | q <;> (have q:c i1=_:=q) <;> omega);have hEj:=hIs2.le;have hEb:=hIb.le;have hEa:=hIa.le;obtain⟨hm1,hm2⟩:=ma_of hc (show i1<n by omega) hopn;have hm1:Ec.maA c A B n (i1:Int)=(a1:Int):=hm1.trans he1;have hm2:Ec.maE c A B n (i1:Int)=(E:Int):=hm2.trans hd1;refine WC.region (WL.z (vP pb 0) 17 (WL.z (vP pb 0) 18 (WL.z (vP pb 5) 19 (WL.y (vS ga n n) 20 (x_load rfl rfl Tryz.underlying69 rfl (HP.cell hH7 0 rfl rfl)) (WL.z (vI (i1:Int)) 21 (WL.z (.slice r1.q r1.t.length r1.c) 22 (WL.y (vP ga i1) 23 (x_ix (i1) (i1) Tryz.underlying69 sz64) ?_)))))));refine WL.store (c':=aR n (upA T1 i1 r1)) (H2:=_) 1 hH7 rfl rfl rfl rfl rfl rfl sz64 rfl (by rw [aR_size];omega) (aR_set n i1 T1 r1) rfl ?_;intro w8 hB8;have hB8:HP (Out [pE pb cq n cap b6 b4 (fjK K) ga,aE ga n T1]) w5 w8 [pE pb cq n cap b6 b4 (fjK K) ga,aE ga n (upA T1 i1 r1)]:=hB8;have hE2:=hE1.keep hB8;have hr2:=hE1.tab hr1 hB8;have hT2:∀ i9,TbOk s y l m w8 (upA T1 i1 r1 i9):=fun i9=>by unfold upA;split;exact hr2;exact hE1.tab (hT1 i9) hB8
   have hH33:=HP.startB hE2.own;refine WL.k hK10 (WC.sb [(0,vP pb 0),(2,vI (j:Int)),(3,.slice r1.q r1.t.length r1.c),(9,vI (i1:Int)),(16,.bool true)] (WC.seq fun K34 hK34=>WC.seq fun K35 hK35=>?_));obtain⟨gc,oc,hqc,hrowc⟩:=hE2.code (by omega);have hgc9:=out_int hE2.own (hrowc i1 (by omega) 0 _ rfl);refine WC.region (WL.z (vP pb 0) 24 (WL.z (vP pb 0) 25 (WL.z (vP pb 0) 26 (WL.y (.slice cq n cap) 27 (x_load rfl rfl Tryz.underlying24 rfl (HP.cell hH33 0 rfl rfl)) (WL.z (vI (i1:Int)) 28 (WL.y (vP gc (oc+i1*3)) 29 (x_idx (b:=gc) (off:=oc) i1 (oc+i1*3) rfl (by rw [← hqc];rfl) rfl Tryz.underlying24 sz51 (by omega) (by omega) (by omega)) (WL.z (vP gc (oc+i1*3)) 30 (WL.y (vI (c i1)) 31 (x_load rfl rfl Tryz.underlying3 rfl ((HP.oldRange hH33 hgc9 (hrowc i1 (by omega))) 0 _ rfl)) ?_))))))));refine WL.c 46 #[vI (c i1)] 32 ?_;refine(Opens_at hopn _).mono ?_;rintro e w36 ⟨rfl,rfl⟩;refine⟨_,rfl,?_⟩;refine WL.z (.bool false) 33 (WL.k hK35 (WC.sb [(0,vP pb 0),(2,vI (j:Int)),(3,.slice r1.q r1.t.length r1.c),(9,vI (i1:Int)),(16,.bool true),(33,.bool false)] ?_));refine WC.no rfl ?_;refine WC.skip (WQ.then (hK34 _ _ _ (WC.seq fun K37 hK37=>WC.region (WL.z (vP pb 0) 44 (WL.z (vP pb 0) 45 (WL.z (vP pb 0) 46 (WL.y (.slice cq n cap) 47 (x_load rfl rfl Tryz.underlying24 rfl (HP.cell hH33 0 rfl rfl)) (WL.z (vI (i1:Int)) 48 ?_))))))));refine WL.c 47 #[.slice cq n cap,vI (i1:Int)] 49 ?_;refine(Match_at hm1 hm2 _ (hE2.keep hH33).code (by omega) (by omega)).mono ?_;rintro e w38 ⟨rfl,hb39⟩;refine⟨_,rfl,?_⟩;have hH40:=HP.call hH33 hb39;refine WL.z (.tuple #[vI (a1:Int),vI (E:Int),vI (Ec.maF c A B n (i1:Int))]) 43 (WL.z (vI (a1:Int)) 50 (WL.z (vI (E:Int)) 51 (WL.z (vI (Ec.maF c A B n (i1:Int))) 52 (WL.z (vI (a1:Int)) 10 (WL.z (vI (E:Int)) 11 (WL.z (vI (Ec.maF c A B n (i1:Int))) 12 (WL.k hK37 (WC.sb [(0,vP pb 0),(2,vI (j:Int)),(3,.slice r1.q r1.t.length r1.c),(9,vI (i1:Int)),(10,vI (a1:Int)),(11,vI (E:Int)),(16,.bool true),(33,.bool false)] (WC.seq fun K41 hK41=>?_)))))))))
   refine WC.region (WL.z (vP pb 0) 53 (WL.z (vI (i1:Int)) 54 (WL.z (vI (a1:Int)) 55 (WL.z (vI (E:Int)) 56 (WL.z (vP pb 0) 57 (WL.z (vP pb 0) 58 (WL.z (vP pb 1) 59 (WL.y (.func (.func 33) #[] #[vP b6 0,vP b4 0]) 60 (x_load rfl rfl Tryz.underlying65 rfl (HP.cell hH40 0 rfl rfl)) (WL.z (vI (i1:Int)) 61 (WL.z (.slice r1.q r1.t.length r1.c) 62 ?_))))))))));have hE4:=hE2.keep hH40;refine WL.c 33 #[vI (i1:Int),.slice r1.q r1.t.length r1.c,vP b6 0,vP b4 0] 63 ?_;refine(doK_any K s y l m i1 r1.q r1.t r1.c b6 b4 _ hE4.how hE4.geo (hE2.tab hr2 hH40).inn hr2.ok (by omega)).mono ?_;rintro e w42 ⟨pv9,cp9,rfl,hb43⟩;refine⟨_,rfl,?_⟩;have hH44:HP (Out [pE pb cq n cap b6 b4 (fjK K) ga,aE ga n (upA T1 i1 r1)]) w8 _ [.cel pb #[.slice cq n cap,.func (.func 33) #[] #[vP b6 0,vP b4 0],.func (.func (fjK K)) #[] #[],.func (.func 34) #[] #[],.func (.func 35) #[] #[],vS ga n n] 71,.cel ga (aR n (upA T1 i1 r1)) 64,rowT pv9 (tcH s y ((i1:Int)/l) (kK K) r1.t).length cp9 (tcH s y ((i1:Int)/l) (kK K) r1.t)]:=HP.trans hH40 hb43;have hr4:TbOk s y l m _ (⟨pv9,(tcH s y ((i1:Int)/l) (kK K) r1.t),cp9⟩:TbI):=⟨InT.own (HP.get hH44 2 rfl),VT_tc hr2.ok (line_of hg.2.2.1 (by omega))⟩;have hE5:=hE2.keep hH44;have hT5:=fun i9=>hE2.tab (hT2 i9) hH44;refine WL.c 88 #[vP pb 0,vI (i1:Int),vI (a1:Int),vI (E:Int),.slice pv9 ((tcH s y ((i1:Int)/l) (kK K) r1.t).length) cp9] 64 ?_;refine(hbr.1 _ _ (⟨pv9,(tcH s y ((i1:Int)/l) (kK K) r1.t),cp9⟩:TbI) hE5 hr4 hT5).mono ?_;rintro e w9 ⟨r9,T9,rfl,hb9,hr9,hT9,hX9⟩;refine⟨_,rfl,?_⟩;have hH45:HP (Out [pE pb cq n cap b6 b4 (fjK K) ga,aE ga n (upA T1 i1 r1)]) w8 _ [.cel pb #[.slice cq n cap,.func (.func 33) #[] #[vP b6 0,vP b4 0],.func (.func (fjK K)) #[] #[],.func (.func 34) #[] #[],.func (.func 35) #[] #[],vS ga n n] 71,.cel ga (aR n T9) 64,rowT pv9 (tcH s y ((i1:Int)/l) (kK K) r1.t).length cp9 (tcH s y ((i1:Int)/l) (kK K) r1.t)]:=HP.exchF (A:=[pE pb cq n cap b6 b4 (fjK K) ga,aE ga n (upA T1 i1 r1)]) (B:=[rowT pv9 (tcH s y ((i1:Int)/l) (kK K) r1.t).length cp9 (tcH s y ((i1:Int)/l) (kK K) r1.t)]) hH44 hb9
   rw [tabs_up] at hX9;refine WL.z (.slice r9.q r9.t.length r9.c) 3 (WL.k hK41 (WC.sb [(0,vP pb 0),(2,vI (j:Int)),(3,.slice r9.q r9.t.length r9.c),(9,vI (i1:Int)),(10,vI (a1:Int)),(11,vI (E:Int)),(16,.bool true),(33,.bool false)] (WC.region (WL.z (vI (E:Int)) 65 (WL.y (vI ((E+1:Nat):Int)) 66 (x_ad (((E+1:Nat):Int))) (WL.z (vI ((E+1:Nat):Int)) 9 (WL.nil (WQ.inNormal ?_))))))));have hF9:HP (Out [pE pb cq n cap b6 b4 (fjK K) ga,aE ga n (upA T1 i1 r1)]) w8 _ [pE pb cq n cap b6 b4 (fjK K) ga,aE ga n T9]:=HP.drop hH45 2;refine WQ.sb [(0,vP pb 0),(2,vI (j:Int)),(3,.slice r9.q r9.t.length r9.c),(9,vI ((E+1:Nat):Int))] ?_;refine WQ.then (hK4 _ _ _ (by omega) ⟨E+1,R2,r9,T9,rfl,rfl,by omega,hIs2,((congrArg (fun X:List T2 × (Nat→List T2)=>Fl.sol (opsK K s y l) (cdOf c n) R2 X.1 X.2) hX9).trans ((sol_alt (opsK K s y l) (cdOf c n) i1 a1 E Ra Rb R2 r1.t (tabs T1)).symm.trans hsol)),hbr.2,hr9,hT9,HP.exch (A:=[]) hM (HP.exch (A:=[]) hB8 hF9),HP.refl _⟩)
 ·
  refine WL.y (.bool false) 16 (x_lss rfl rfl rfl (dF (hlt))) (WL.k hK9 ?_);refine WC.no rfl ?_;refine WC.exit (WQ.thenExit (WQ.thenExit (WQ.inExit (WQ.then (hK2 _ _ _ (WC.seq fun K46 hK46=>WC.region (WL.z (.slice r1.q r1.t.length r1.c) 67 (WL.z (.slice r1.q r1.t.length r1.c) 8 (WL.nil (WQ.then ?_))))))))));refine hK46 _ _ _ (WC.ret ?_);refine WQ.ret1 8 rfl rfl ?_;cases R1 with
  | nil=>exact⟨r1,T1,rfl,hM,hr1,hT1,hsol⟩
  | one i1 R2=>have q9:=hIs.2.2.le;have q8:=hIs.1;omega
  | plain i1 E Rb R2=>have q9:=hIs.2.2.2.2.2.2.2.le;have q7:=hIs.2.2.2.2.2.2.1.le;have q8:=hIs.1;omega
  | alt i1 a1 E Ra Rb R2=>have q9:=hIs.2.2.2.2.2.2.2.2.2.2.le;have q7:=hIs.2.2.2.2.2.2.2.2.2.1.le;have q6:=hIs.2.2.2.2.2.2.2.2.1.le;have q8:=hIs.1;omega
abbrev BrP0 (s y l m:Int) (pb:Nat) (cq:Option Addr) (n cap b6 b4 ga:Nat) (c A B:Nat→Int) (i E:Nat) (Rb:Fl.Tr):Prop:=BrPK false s y l m pb cq n cap b6 b4 ga c A B i E Rb
abbrev BrA0 (s y l m:Int) (pb:Nat) (cq:Option Addr) (n cap b6 b4 ga:Nat) (c A B:Nat→Int) (i a E:Nat) (Ra Rb:Fl.Tr):Prop:=BrAK false s y l m pb cq n cap b6 b4 ga c A B i a E Ra Rb
abbrev BrP1 (s y l m:Int) (pb:Nat) (cq:Option Addr) (n cap b6 b4 ga:Nat) (c A B:Nat→Int) (i E:Nat) (Rb:Fl.Tr):Prop:=BrPK true s y l m pb cq n cap b6 b4 ga c A B i E Rb
abbrev BrA1 (s y l m:Int) (pb:Nat) (cq:Option Addr) (n cap b6 b4 ga:Nat) (c A B:Nat→Int) (i a E:Nat) (Ra Rb:Fl.Tr):Prop:=BrAK true s y l m pb cq n cap b6 b4 ga c A B i a E Ra Rb
end Ca
end Go.Proofs.YtmjnakhpekbenaaGreat
namespace Go.Proofs.YtmjnakhpekbenaaGreat
set_option maxRecDepth 20000
set_option maxHeartbeats 4000000
open Go.RowKit Fw
namespace Ca
def farO (x:Int):Bool:=decide (x=25) || decide (x=26)
def farB (c:Nat→Int) (n:Nat):Bool:=(List.range n).any fun i=>farO (c i)
theorem farB_no {c:Nat→Int} {n:Nat} (h:∀ i,i<n→farO (c i)=false):farB c n=false:=by
  unfold farB;rw [List.any_eq_false];intro i hi;rw [h i (List.mem_range.1 hi)];exact Bool.false_ne_true
theorem farB_yes {c:Nat→Int} {n i:Nat} (hi:i<n) (h:farO (c i)=true):farB c n=true:=by
  unfold farB;rw [List.any_eq_true];exact⟨i,List.mem_range.2 hi,h⟩
def okC (s y l m:Int) (c A B:Nat→Int) (n:Nat):Bool:=vG s y l m && (decide (Ec.chk c A B false n=0) && !farB c n)
theorem okC_iff {s y l m:Int} {c A B:Nat→Int} {n:Nat}:okC s y l m c A B n=true↔vG s y l m=true∧Ec.chk c A B false n=0∧farB c n=false:=by simp [okC]
theorem sz4:(Tryz.prog.info? 4).map (·.size)=some 1:=by kernel_rfl
theorem sz69:(Tryz.prog.info? 69).map (·.size)=some 1:=by kernel_rfl
theorem far1_any (op a b:Int) (w:World) :
  Calls Tryz.prog 57 #[.agg #[vI op,vI a,vI b]] w fun e w'=>e=.returned (.bool (farO op))∧Below w.heap.size w w':=by
 refine calls_of Tryz.func57 rfl (m:=11) rfl [(0,.agg #[vI op,vI a,vI b])] (Fr_enter [.agg #[vI op,vI a,vI b]] 11 (Nat.le_of_ble_eq_true rfl)) ?_;have hH1:HP Tr w w []:=HP.refl w;refine WC.seq fun K2 hK2=>WC.region ?_;refine WL.alloc (c:=#[vI op,vI a,vI b]) (T:=51) hH1 1 rfl (by decide) rfl rfl (fun b1=>vP b1 0) (by kernel_rfl) (fun b1 w3 hw3=>?_);have hH4:HP Tr w w3 [.cel b1 #[vI op,vI a,vI b] 51]:=hw3.2;have nb1:=hw3.1;clear hw3;refine WL.z (.bool false) 2 (WL.k hK2 (WC.seq fun K5 hK5=>WC.region (WL.z (vP b1 0) 3 (WL.y (vI op) 4 (x_load rfl rfl Tryz.underlying3 rfl (HP.cell hH4 0 rfl rfl)) ?_))));by_cases h5:op=25
 ·
  refine WL.y (.bool true) 5 (x_eql rfl rfl rfl (dT (h5))) (WL.z (.bool true) 6 (WL.p 7 (WL.p 8 (WL.p 9 (WL.z (.bool true) 10 (WL.z (.bool true) 2 (WL.k hK5 (WC.sb [(0,.agg #[vI op,vI a,vI b]),(1,vP b1 0),(2,.bool true)] (WC.ret ?_)))))))));refine WQ.ret1 2 rfl rfl ?_;exact⟨by rw [show farO op=true by unfold farO;simp [h5]],HP.below hH4⟩
 ·
  refine WL.y (.bool false) 5 (x_eql rfl rfl rfl (dF (h5))) (WL.z (.bool false) 6 (WL.z (vP b1 0) 7 (WL.y (vI op) 8 (x_load rfl rfl Tryz.underlying3 rfl (HP.cell hH4 0 rfl rfl)) ?_)));by_cases h9:op=26
  ·
   refine WL.y (.bool true) 9 (x_eql rfl rfl rfl (dT (h9))) (WL.z (.bool true) 10 (WL.z (.bool true) 2 (WL.k hK5 (WC.sb [(0,.agg #[vI op,vI a,vI b]),(1,vP b1 0),(2,.bool true)] (WC.ret ?_)))));refine WQ.ret1 2 rfl rfl ?_;exact⟨by rw [show farO op=true by unfold farO;simp [h5,h9]],HP.below hH4⟩
  ·
   refine WL.y (.bool false) 9 (x_eql rfl rfl rfl (dF (h9))) (WL.z (.bool false) 10 (WL.z (.bool false) 2 (WL.k hK5 (WC.sb [(0,.agg #[vI op,vI a,vI b]),(1,vP b1 0),(2,.bool false)] (WC.ret ?_)))));refine WQ.ret1 2 rfl rfl ?_;exact⟨by rw [show farO op=false by unfold farO;simp [h5,h9]],HP.below hH4⟩
theorem farI_any (p:Option Addr) (n cap:Nat) (c A B:Nat→Int) (w:World) (hIn:Ec.InC w p n c A B) (hn:n≤400) :
  Calls Tryz.prog 87 #[.slice p n cap,.func (.func 57) #[] #[]] w fun e w'=>∃ r:Int,e=.returned (.int .i64 r)∧(decide (0≤r)=farB c n)∧Below w.heap.size w w':=by
 refine calls_of Tryz.func87 rfl (m:=19) rfl [(0,.slice p n cap),(1,.func (.func 57) #[] #[])] (Fr_enter [.slice p n cap,.func (.func 57) #[] #[]] 19 (Nat.le_of_ble_eq_true rfl)) ?_;have hH1:HP Tr w w []:=HP.refl w;refine WC.seq fun K2 hK2=>WC.region (WL.z (vI 0) 4 (WL.k hK2 (WC.seq fun K3 hK3=>WC.seq fun K4 hK4=>WC.region (WL.z (.slice p n cap) 6 (WL.z (vI (n:Int)) 7 (WL.z (vI 0) 8 ?_))))));refine WL.k hK4 (WC.block ?_);refine WC.loop (fun kk0 ll0 ww0=>∃ (i:Nat),ll0=[(0,.slice p n cap),(1,.func (.func 57) #[] #[]),(7,vI (n:Int)),(8,vI (i:Int))]∧kk0=n-i∧(i≤n)∧(∀ j,j<i→farO (c j)=false)∧HP Tr w ww0 []) (n) [(0,.slice p n cap),(1,.func (.func 57) #[] #[]),(7,vI (n:Int)),(8,vI 0)] ⟨rfl,rfl,rfl,rfl,trivial⟩ ⟨0,rfl,rfl,Nat.zero_le _,(fun j hj=>by omega),hH1⟩ ?_;rintro kk l w6 ⟨i,rfl,hkk,hi,hall,hH7⟩ K5 hK5;refine WC.seq fun K8 hK8=>WC.region ?_;by_cases hlt:(i:Int)<(n:Int)
 ·
  refine WL.y (.bool true) 9 (x_lss rfl rfl rfl (dT (hlt))) (WL.k hK8 (WC.seq fun K9 hK9=>?_));refine WC.yes rfl ?_;refine WC.skip (WQ.then (hK9 _ _ _ (WC.seq fun K10 hK10=>WC.block (WC.seq fun K11 hK11=>WC.region (WL.z (vI (i:Int)) 10 (WL.z (vI (i:Int)) 5 (WL.k hK11 ?_)))))));refine WC.seq fun K12 hK12=>?_;obtain⟨bb,oo,rfl,hrow⟩:=hIn (by omega);refine WC.region (WL.z (.func (.func 57) #[] #[]) 11 (WL.z (.slice (some ⟨bb,oo,none⟩) n cap) 12 (WL.z (vI (i:Int)) 13 (WL.y (vP bb (oo+i*3)) 14 (x_ix (i) (oo+i*3) Tryz.underlying24 sz51) (WL.y (.agg #[vI (c i),vI (A i),vI (B i)]) 15 (x_loadS (cs:=[vI (c i),vI (A i),vI (B i)]) rfl rfl Tryz.underlying51 rfl sz51 (HP.oldRange hH7 trivial (hrow i (by omega)))) ?_)))));refine WL.c 57 #[.agg #[vI (c i),vI (A i),vI (B i)]] 16 ?_;refine(far1_any _ _ _ _).mono ?_;rintro e w13 ⟨rfl,hb14⟩;refine⟨_,rfl,?_⟩;have hH15:=HP.call hH7 hb14;refine WL.k hK12 (WC.sb [(0,.slice (some ⟨bb,oo,none⟩) n cap),(1,.func (.func 57) #[] #[]),(5,vI (i:Int)),(7,vI (n:Int)),(8,vI (i:Int)),(9,.bool true),(16,.bool (farO (c i)))] ?_);rcases Bool.eq_false_or_eq_true (farO (c i)) with hA | hA
  ·
   refine WC.yes (congrArg (fun b=>some (Value.bool b)) hA) ?_;refine WC.seq fun K16 hK16=>WC.region (WL.z (vI (i:Int)) 17 (WL.z (vI (i:Int)) 4 (WL.k hK16 (WC.ret ?_))));refine WQ.inRet ?_;refine WQ.thenRet ?_;refine WQ.thenRet ?_;refine WQ.inRet ?_;refine WQ.thenRet ?_;refine WQ.ret1 4 rfl rfl ?_;exact⟨(i:Int),rfl,by rw [farB_yes (show i<n by omega) hA];simp,HP.below hH15⟩
  ·
   refine WC.no (congrArg (fun b=>some (Value.bool b)) hA) ?_;refine WC.skip (WQ.inNormal (WQ.then (hK10 _ _ _ (WC.region (WL.y (vI ((i+1:Nat):Int)) 18 (x_ad (((i+1:Nat):Int))) (WL.z (vI ((i+1:Nat):Int)) 8 (WL.nil (WQ.sb [(0,.slice (some ⟨bb,oo,none⟩) n cap),(1,.func (.func 57) #[] #[]),(7,vI (n:Int)),(8,vI ((i+1:Nat):Int))] ?_))))))));refine WQ.then (hK5 _ _ _ (by omega) ⟨i+1,rfl,rfl,by omega,(fun j hj=>by
        by_cases q:j=i
        · subst q;exact hA
        · exact hall j (by omega)),hH15⟩)
 ·
  refine WL.y (.bool false) 9 (x_lss rfl rfl rfl (dF (hlt))) (WL.k hK8 (WC.seq fun K17 hK17=>?_));refine WC.no rfl ?_;refine WC.exit (WQ.thenExit (WQ.thenExit (WQ.inExit (WQ.then (hK3 _ _ _ (WC.seq fun K18 hK18=>WC.region (WL.z (vI (-1)) 4 (WL.k hK18 ?_))))))));refine WC.ret ?_;refine WQ.ret1 4 rfl rfl ?_;exact⟨-1,rfl,by rw [farB_no (fun j hj=>hall j (by omega))];decide,HP.below hH7⟩
theorem farC_any (p:Option Addr) (n cap:Nat) (c A B:Nat→Int) (w:World) (hIn:Ec.InC w p n c A B) (hn:n≤400) :
    Calls Tryz.prog 60 #[.slice p n cap,.func (.func 57) #[] #[]] w fun e w'=>e=.returned (.bool (farB c n))∧Below w.heap.size w w':=by
  refine calls_of Tryz.func60 rfl (m:=9) rfl [(0,.slice p n cap),(1,.func (.func 57) #[] #[])] (Fr_enter [.slice p n cap,.func (.func 57) #[] #[]] 9 (Nat.le_of_ble_eq_true rfl)) ?_;have hH1:HP Tr w w []:=HP.refl w;refine WC.seq fun K2 hK2=>WC.region (WL.z (.bool false) 4 (WL.k hK2 (WC.seq fun K3 hK3=>WC.region (WL.z (.slice p n cap) 5 (WL.z (.func (.func 57) #[] #[]) 6 ?_)))));refine WL.c 87 #[.slice p n cap,.func (.func 57) #[] #[]] 7 ?_;refine(farI_any p n cap c A B _ (hIn.below (HP.below hH1)) hn).mono ?_;rintro e w4 ⟨r,rfl,hr,hb5⟩;refine⟨_,rfl,?_⟩;have hH6:=HP.call hH1 hb5;refine WL.y (.bool (farB c n)) 8 (x_geq rfl rfl rfl hr) (WL.z (.bool (farB c n)) 4 (WL.k hK3 (WC.ret ?_)));refine WQ.ret1 4 rfl rfl ?_;exact⟨rfl,HP.below hH6⟩
theorem Valid_at {s y l m:Int} {r:Bool} (h:vG s y l m=r) (w:World):Calls Tryz.prog 58 #[.agg #[vI s,vI y,vI l,vI m]] w fun e w'=>e=.returned (.bool r)∧Below w.heap.size w w':=h ▸ Valid_any s y l m w
theorem farC_at {c A B:Nat→Int} {n:Nat} {r:Bool} (h:farB c n=r) (p:Option Addr) (cap:Nat) (w:World) (hIn:Ec.InC w p n c A B) (hn:n≤400):Calls Tryz.prog 60 #[.slice p n cap,.func (.func 57) #[] #[]] w fun e w'=>e=.returned (.bool r)∧Below w.heap.size w w':=h ▸ farC_any p n cap c A B w hIn hn
theorem checked_any (s y l m:Int) (p:Option Addr) (n cap:Nat) (c A B:Nat→Int) (w:World) (hIn:Ec.InC w p n c A B) (hn:n≤400) :
  Calls Tryz.prog 32 #[.agg #[vI s,vI y,vI l,vI m],.slice p n cap] w fun e w'=>e=.returned (.bool (okC s y l m c A B n))∧Below w.heap.size w w':=by
 refine calls_of Tryz.func32 rfl (m:=19) rfl [(0,.agg #[vI s,vI y,vI l,vI m]),(1,.slice p n cap)] (Fr_enter [.agg #[vI s,vI y,vI l,vI m],.slice p n cap] 19 (Nat.le_of_ble_eq_true rfl)) ?_;have hH1:HP Tr w w []:=HP.refl w;refine WC.seq fun K2 hK2=>WC.region ?_;refine WL.alloc (c:=#[vI s,vI y,vI l,vI m]) (T:=23) hH1 2 rfl (by decide) rfl rfl (fun b2=>vP b2 0) (by kernel_rfl) (fun b2 w3 hw3=>?_);have hH4:HP Tr w w3 [.cel b2 #[vI s,vI y,vI l,vI m] 23]:=hw3.2;have nb2:=hw3.1;clear hw3;refine WL.z (.bool false) 4 (WL.k hK2 (WC.seq fun K5 hK5=>WC.region (WL.z (.func (.func 57) #[] #[]) 5 (WL.k hK5 (WC.seq fun K6 hK6=>WC.region ?_)))));refine WL.y (.agg #[vI s,vI y,vI l,vI m]) 6 (x_loadS (cs:=[vI s,vI y,vI l,vI m]) rfl rfl Tryz.underlying23 rfl sz23 (HP.range hH4 0 rfl rfl)) ?_;rcases Bool.eq_false_or_eq_true (vG s y l m) with hg | hg
 ·
  refine WL.c 58 #[.agg #[vI s,vI y,vI l,vI m]] 7 ?_;refine(Valid_at hg _).mono ?_;rintro e w7 ⟨rfl,hb8⟩;refine⟨_,rfl,?_⟩;have hH9:=HP.call hH4 hb8;refine WL.z (.bool true) 8 (WL.z (.slice p n cap) 9 ?_);refine WL.c 59 #[.slice p n cap,.bool false] 10 ?_;refine(Ec.Check_any p n cap c A B false _ (hIn.below (HP.below hH9)) hn).mono ?_;rintro e w10 ⟨rfl,hb11⟩;refine⟨_,rfl,?_⟩;have hH12:=HP.call hH9 hb11;by_cases hck:(Ec.chk c A B false n)=0
  ·
   refine WL.y (.bool true) 11 (x_eql rfl rfl rfl (dT (hck))) (WL.z (.bool true) 12 (WL.z (.bool true) 13 (WL.z (.slice p n cap) 14 (WL.z (.func (.func 57) #[] #[]) 15 ?_))));rcases Bool.eq_false_or_eq_true (farB c n) with hf | hf
   ·
    refine WL.c 60 #[.slice p n cap,.func (.func 57) #[] #[]] 16 ?_;refine(farC_at hf p cap _ (hIn.below (HP.below hH12)) hn).mono ?_;rintro e w13 ⟨rfl,hb14⟩;refine⟨_,rfl,?_⟩;have hH15:=HP.call hH12 hb14;refine WL.z (.bool false) 17 (WL.z (.bool false) 18 (WL.z (.bool false) 4 (WL.k hK6 (WC.sb [(0,.agg #[vI s,vI y,vI l,vI m]),(1,.slice p n cap),(2,vP b2 0),(4,.bool false),(5,.func (.func 57) #[] #[])] (WC.ret ?_)))));refine WQ.ret1 4 rfl rfl ?_;exact⟨by rw [show okC s y l m c A B n=false by unfold okC;simp [hg,hck,hf]],HP.below hH15⟩
   ·
    refine WL.c 60 #[.slice p n cap,.func (.func 57) #[] #[]] 16 ?_;refine(farC_at hf p cap _ (hIn.below (HP.below hH12)) hn).mono ?_;rintro e w16 ⟨rfl,hb17⟩;refine⟨_,rfl,?_⟩;have hH18:=HP.call hH12 hb17;refine WL.z (.bool true) 17 (WL.z (.bool true) 18 (WL.z (.bool true) 4 (WL.k hK6 (WC.sb [(0,.agg #[vI s,vI y,vI l,vI m]),(1,.slice p n cap),(2,vP b2 0),(4,.bool true),(5,.func (.func 57) #[] #[])] (WC.ret ?_)))));refine WQ.ret1 4 rfl rfl ?_;exact⟨by rw [show okC s y l m c A B n=true by unfold okC;simp [hg,hck,hf]],HP.below hH18⟩
  ·
   refine WL.y (.bool false) 11 (x_eql rfl rfl rfl (dF (hck))) (WL.z (.bool false) 12 (WL.z (.bool false) 13 (WL.p 14 (WL.p 15 (WL.p 16 (WL.p 17 (WL.z (.bool false) 18 (WL.z (.bool false) 4 (WL.k hK6 ?_)))))))));refine WC.sb [(0,.agg #[vI s,vI y,vI l,vI m]),(1,.slice p n cap),(2,vP b2 0),(4,.bool false),(5,.func (.func 57) #[] #[])] (WC.ret ?_);refine WQ.ret1 4 rfl rfl ?_;exact⟨by rw [show okC s y l m c A B n=false by unfold okC;simp [hg,hck]],HP.below hH12⟩
 ·
  refine WL.c 58 #[.agg #[vI s,vI y,vI l,vI m]] 7 ?_;refine(Valid_at hg _).mono ?_;rintro e w19 ⟨rfl,hb20⟩;refine⟨_,rfl,?_⟩;have hH21:=HP.call hH4 hb20;refine WL.z (.bool false) 8 (WL.p 9 (WL.p 10 (WL.p 11 (WL.z (.bool false) 12 (WL.z (.bool false) 13 (WL.p 14 (WL.p 15 (WL.p 16 (WL.p 17 (WL.z (.bool false) 18 (WL.z (.bool false) 4 ?_)))))))))));refine WL.k hK6 (WC.sb [(0,.agg #[vI s,vI y,vI l,vI m]),(1,.slice p n cap),(2,vP b2 0),(4,.bool false),(5,.func (.func 57) #[] #[])] (WC.ret ?_));refine WQ.ret1 4 rfl rfl ?_;exact⟨by rw [show okC s y l m c A B n=false by unfold okC;simp [hg]],HP.below hH21⟩
theorem checked_at {s y l m:Int} {c A B:Nat→Int} {n:Nat} {r:Bool} (h:okC s y l m c A B n=r) (p:Option Addr) (cap:Nat) (w:World) (hIn:Ec.InC w p n c A B) (hn:n≤400):Calls Tryz.prog 32 #[.agg #[vI s,vI y,vI l,vI m],.slice p n cap] w fun e w'=>e=.returned (.bool r)∧Below w.heap.size w w':=h ▸ checked_any s y l m p n cap c A B w hIn hn
theorem ne_of {S:Nat→Prop} {w0 w:World} {H:List Ent} (h:HP S w0 w H) (i j:Nat) {e e':Ent} {b b':Nat} (hij:i<j) (h1:H[i]?=some e) (h2:H[j]?=some e') (h3:e.blk=some b) (h4:e'.blk=some b'):b≠b':=fun q=>by
  obtain⟨l1,g1⟩:=List.getElem?_eq_some_iff.1 h1;obtain⟨l2,g2⟩:=List.getElem?_eq_some_iff.1 h2;have:=List.pairwise_iff_getElem.1 h.apart i j l1 l2 hij;rw [g1,g2] at this;exact this b h3 (q ▸ h4)
theorem out1 {b g:Nat} {c:Array Value} {T:TypeId} (h:b≠g):Out [.cel g c T] b:=fun e he hb=>by
  obtain rfl:=List.mem_singleton.1 he;exact h (Option.some.inj hb).symm
def upB (f:Nat→Bool) (i:Nat) (v:Bool):Nat→Bool:=fun j=>if j=i then v else f j
def brow (n:Nat) (f:Nat→Bool):Array Value:=(Array.range n).map fun i=>.bool (f i)
theorem brow_get {n j:Nat} {f:Nat→Bool} {v:Bool} (hj:j<n) (hv:f j=v):(brow n f)[j]?=some (.bool v):=by simp [brow,hj,hv]
theorem brow_set (n i:Nat) (f:Nat→Bool) (v:Bool):(brow n f).setIfInBounds i (.bool v)=brow n (upB f i v):=by
  apply Array.ext
  · simp [brow]
  · intro j h1 h2
    rw [Array.getElem_setIfInBounds (by simpa using h1)];by_cases e:i=j
    · subst e;simp [brow,upB]
    · rw [if_neg e];simp [brow,upB,Ne.symm e]
theorem brow_congr {n:Nat} {f g:Nat→Bool} (h:∀ i,i<n→f i=g i):brow n f=brow n g:=by
  unfold brow;apply Array.ext
  · simp
  · intro i h1 h2
    have hi:i<n:=(by simpa using h1);simp [h i hi]
theorem infoB:∃ i,Tryz.prog.info? 4=some i∧i.zero=some (.bool false)∧i.size=1∧i.bytes=1:=by
  obtain⟨i,hi,h⟩:=Option.map_eq_some_iff.1 (show (Tryz.prog.info? 4).map (fun i=>(i.zero,i.size,i.bytes))=some (some (.bool false),1,1) by kernel_rfl);simp only [Prod.mk.injEq] at h;exact⟨i,hi,h.1,h.2.1,h.2.2⟩
theorem made_brow (n:Nat):madeCells (Value.bool false).cells (n*1)=brow n (fun _=>false):=by
  apply Array.ext
  · simp [madeCells,brow]
  · intro i h1 h2
    simp [madeCells,brow,Value.cells,Nat.mod_one]
theorem makeB (n:Nat) (hn:n≤1000) (W:World):(Instr.makeSlice 26 (.int .i64 (n:Int)) (.int .i64 (n:Int))).run Tryz.prog W=.ok (.slice (some ⟨W.heap.size,0,none⟩) n n) (W.alloc (.cells (brow n (fun _=>false)) 4)):=by
  obtain⟨i0,hi0,hz0,hz1,hz2⟩:=infoB;have hr:=run_make (P:=Tryz.prog) W 26 4 i0 _ Tryz.underlying26 hi0 hz0 .i64 .i64 (n:Int) (n:Int) (by omega) (by omega) (by rw [hz2];omega) (by omega);rw [hz1,made_brow] at hr;simpa using hr
theorem out_bool {w:World} {g n:Nat} {f:Nat→Bool} (hB:OwnB w [.cel g (brow n f) 4]) {b o:Nat} {x:Int} (hc:w.cell? ⟨b,o,none⟩=some (vI x)):Out [.cel g (brow n f) 4] b:=out1 fun e=>by
  subst e;have h2:=hB.1 (.cel b (brow n f) 4) (by simp);rw [cell_of_row w b o _ 4 (0,0) h2] at hc;have hi:o<n:=by
    have:=(Array.getElem?_eq_some_iff.1 hc).1;simpa [brow] using this
  rw [brow_get hi rfl] at hc;cases hc
def mkF (ah:Nat→List T2) (l:Int) (i:Nat):Nat→Bool:=fun j=>decide (j<i) && (ageT (ah j) ((j:Int)/l)).isSome
theorem mkF_0 (ah:Nat→List T2) (l:Int) (j:Nat):mkF ah l 0 j=false:=by simp [mkF]
theorem mkF_step (ah:Nat→List T2) (l:Int) (i j:Nat):upB (mkF ah l i) i (ageT (ah i) ((i:Int)/l)).isSome j=mkF ah l (i+1) j:=by
  unfold upB mkF;by_cases e:j=i
  · subst e;rw [if_pos rfl,decide_eq_true (Nat.lt_succ_self j),Bool.true_and]
  · rw [if_neg e]
    by_cases q:j<i
    · rw [decide_eq_true q,decide_eq_true (show j<i+1 by omega)]
    · rw [decide_eq_false q,decide_eq_false (show ¬ j<i+1 by omega)]
theorem find2_any (p:Option Addr) (t:List T2) (cp:Nat) (w:World) (hT:InT w p t) (x:Int) (hn:t.length≤281474976710656) (hs:sT t) :
    Calls Tryz.prog 37 #[.slice p t.length cp,vI x] w fun e w'=>∃ k:Nat,e=.returned (.tuple #[vI (k:Int),.bool (ageT t x).isSome])∧Below w.heap.size w w' :=
  (find_any p t cp w hT x hn).mono fun e w' ⟨k,fb,h1,h2,h3,h4,h5,h6⟩=>⟨k,by
    rw [h1,h5];by_cases q:k<t.length∧lnT t k=x
    · rw [decide_eq_true q,← q.2,age_at hs q.1];rfl
    · rw [decide_eq_false q,find_none hs h2 h3 h4 q];rfl,h6⟩
theorem nil_ok {s y l m:Int} {w:World} (hg:vG s y l m=true):TbOk s y l m w ⟨none,[],0⟩:=⟨fun h=>absurd h (by simp),VT.nil hg⟩
abbrev pE0 (pb:Nat) (cq:Option Addr) (n cap b6 b4 fj:Nat):Ent:=.cel pb #[.slice cq n cap,.func (.func 33) #[] #[vP b6 0,vP b4 0],.func (.func fj) #[] #[],.func (.func 34) #[] #[],.func (.func 35) #[] #[],.slice none 0 0] 71
theorem out_int0 {w:World} {pb n cap b6 b4 fj:Nat} {cq:Option Addr} (hB:OwnB w [pE0 pb cq n cap b6 b4 fj]) {b o:Nat} {x:Int} (hc:w.cell? ⟨b,o,none⟩=some (vI x)):Out [pE0 pb cq n cap b6 b4 fj] b:=fun e he hb=>by
  obtain rfl:=List.mem_singleton.1 he;cases hb;have h2:=hB.1 (pE0 pb cq n cap b6 b4 fj) (by simp);rw [cell_of_row w pb o _ 71 (0,0) h2] at hc
  match o,hc with
  | 0,hc=>simp at hc
  | 1,hc=>simp at hc
  | 2,hc=>simp at hc
  | 3,hc=>simp at hc
  | 4,hc=>simp at hc
  | 5,hc=>simp at hc
  | o+6,hc=>simp at hc
def nilT:Nat→TbI:=fun _=>⟨none,[],0⟩
theorem info88:∃ i,Tryz.prog.info? 64=some i∧i.zero=some (.slice none 0 0)∧i.size=1∧i.bytes=24:=by
  obtain⟨i,hi,h⟩:=Option.map_eq_some_iff.1 (show (Tryz.prog.info? 64).map (fun i=>(i.zero,i.size,i.bytes))=some (some (.slice none 0 0),1,24) by kernel_rfl);simp only [Prod.mk.injEq] at h;exact⟨i,hi,h.1,h.2.1,h.2.2⟩
theorem made_aR (n:Nat):madeCells (Value.slice none 0 0).cells (n*1)=aR n nilT:=by
  apply Array.ext
  · simp [madeCells,aR]
  · intro i h1 h2
    simp [madeCells,aR,nilT,Value.cells,Nat.mod_one]
theorem makeT (n:Nat) (hn:n≤1000) (W:World):(Instr.makeSlice 69 (.int .i64 (n:Int)) (.int .i64 (n:Int))).run Tryz.prog W=.ok (.slice (some ⟨W.heap.size,0,none⟩) n n) (W.alloc (.cells (aR n nilT) 64)):=by
  obtain⟨i0,hi0,hz0,hz1,hz2⟩:=info88;have hr:=run_make (P:=Tryz.prog) W 69 64 i0 _ Tryz.underlying69 hi0 hz0 .i64 .i64 (n:Int) (n:Int) (by omega) (by omega) (by rw [hz2];omega) (by omega);rw [hz1,made_aR] at hr;simpa using hr
theorem solveK_any (K:Bool) (s y l m:Int) (pb:Nat) (cq:Option Addr) (n cap b6 b4:Nat) (c A B:Nat→Int) (hg0:vG s y l m=true) (hc:Ec.chk c A B false n=0) (R:Fl.Tr) (hIs0:Fl.Is (cdOf c n) R 0 n) (hbr0:∀ ga,BrAll (BrPK K s y l m pb cq n cap b6 b4 ga c A B) (BrAK K s y l m pb cq n cap b6 b4 ga c A B) R) (w:World) (hB:OwnB w [pE0 pb cq n cap b6 b4 (fjK K)]) (hcode:Ec.InC w cq n c A B) (geo:w.rangeAt b4 0 [vI s,vI y,vI l,vI m]) (how:w.cell? ⟨b6,0,none⟩=some (.func (.func (fhK K)) #[] #[])) (nb:b6≠pb) :
  Calls Tryz.prog 36 #[vP pb 0,.slice none 0 0] w fun e w'=>∃ ga T' r',e=.returned (.tuple #[vS ga n n,tbV r'])∧HP (Out [pE0 pb cq n cap b6 b4 (fjK K)]) w w' [pE pb cq n cap b6 b4 (fjK K) ga,aE ga n T']∧(∀ i,TbOk s y l m w' (T' i))∧(r'.t,tabs T')=Fl.sol (opsK K s y l) (cdOf c n) R [] (fun _=>[]):=by
 have hn9:=(Ec.chk_ok hc).1;refine calls_of Tryz.func36 rfl (m:=29) rfl [(0,vP pb 0),(1,.slice none 0 0)] (Fr_enter [vP pb 0,.slice none 0 0] 29 (Nat.le_of_ble_eq_true rfl)) ?_;refine WC.seq fun K1 hK1=>WC.region (WL.z (.slice none 0 0) 4 (WL.z (.slice none 0 0) 5 (WL.k hK1 (WC.seq fun K2 hK2=>WC.region (WL.z (vP pb 0) 7 (WL.z (vP pb 0) 8 (WL.z (vP pb 0) 9 ?_)))))));refine WL.z (vP pb 0) 10 (WL.y (.slice cq n cap) 11 (x_load rfl rfl Tryz.underlying24 rfl (HP.cell (HP.startB hB) 0 rfl rfl)) (WL.z (vI (n:Int)) 12 ?_));refine WL.alloc (c:=aR n nilT) (T:=64) (HP.startB hB) 13 rfl (by decide) rfl rfl (fun ga=>vS ga n n) (x_makeR rfl rfl rfl (makeT n (by omega) _)) (fun ga w9 hw9=>?_);have hga:=hw9.1;have hH3:HP (Out [pE0 pb cq n cap b6 b4 (fjK K)]) w w9 [.cel pb #[.slice cq n cap,.func (.func 33) #[] #[vP b6 0,vP b4 0],.func (.func (fjK K)) #[] #[],.func (.func 34) #[] #[],.func (.func 35) #[] #[],.slice none 0 0] 71,.cel ga (aR n nilT) 64]:=hw9.2;refine WL.z (vP pb 0) 14 (WL.z (vP pb 5) 15 ?_);refine WL.store (H2:=[.cel pb #[.slice cq n cap,.func (.func 33) #[] #[vP b6 0,vP b4 0],.func (.func (fjK K)) #[] #[],.func (.func 34) #[] #[],.func (.func 35) #[] #[],vS ga n n] 71,.cel ga (aR n nilT) 64]) 0 hH3 rfl rfl rfl rfl rfl rfl sz69 rfl (Nat.le_of_ble_eq_true rfl) rfl rfl ?_;intro w4 hH5;refine WL.k hK2 (WC.sb [(0,vP pb 0),(1,.slice none 0 0),(4,.slice none 0 0),(5,.slice none 0 0)] (WC.seq fun K6 hK6=>WC.region (WL.z (vP pb 0) 16 (WL.z (vP pb 0) 17 (WL.z (vP pb 0) 18 (WL.z (vP pb 0) 19 (WL.y (.slice cq n cap) 20 (x_load rfl rfl Tryz.underlying24 rfl (HP.cell hH5 0 rfl rfl)) (WL.z (vI (n:Int)) 21 ?_))))))));refine WL.z (.slice none 0 0) 22 ?_;have hI9:Ec.InC _ cq n c A B:=fun h0=>by
   obtain⟨g9,o9,hq9,hr9⟩:=hcode h0;exact⟨g9,o9,hq9,fun i9 h9=>HP.oldRange hH5 (out_int0 hB (hr9 i9 h9 0 _ rfl)) (hr9 i9 h9)⟩
 have hb6l:=World.block_lt_of_cell? w _ how;have hE9:Env s y l m pb cq n cap b6 b4 (fhK K) (fjK K) ga c A B _ nilT:=⟨HP.ownF (A:=[pE pb cq n cap b6 b4 (fjK K) ga,aE ga n nilT]) (B:=[]) hH5,hI9,HP.oldRange hH5 (out_int0 hB (geo 0 _ rfl)) geo,HP.old hH5 (fun e he hb=>by obtain rfl:=List.mem_singleton.1 he;cases hb;exact nb rfl) how,nb,by simp only [] at hb6l;omega⟩;refine WL.c 61 #[vP pb 0,vI 0,vI (n:Int),.slice none 0 0] 23 ?_;refine(listK_any K s y l m pb cq n cap b6 b4 ga c A B hg0 hc R 0 n hIs0 (Nat.le_refl _) (hbr0 ga) _ nilT ⟨none,[],0⟩ hE9 (nil_ok hg0) (fun _=>nil_ok hg0)).mono ?_;rintro e w9 ⟨r9,T9,rfl,hb9,hr9,hT9,hX9⟩;refine⟨_,rfl,?_⟩;have hH7:HP (Out [pE0 pb cq n cap b6 b4 (fjK K)]) w _ [.cel pb #[.slice cq n cap,.func (.func 33) #[] #[vP b6 0,vP b4 0],.func (.func (fjK K)) #[] #[],.func (.func 34) #[] #[],.func (.func 35) #[] #[],vS ga n n] 71,.cel ga (aR n T9) 64]:=HP.exch (A:=[]) hH5 hb9;refine WL.z (.slice r9.q r9.t.length r9.c) 6 (WL.k hK6 (WC.sb [(0,vP pb 0),(1,.slice none 0 0),(4,.slice none 0 0),(5,.slice none 0 0),(6,.slice r9.q r9.t.length r9.c)] (WC.seq fun K8 hK8=>WC.region (WL.z (vP pb 0) 24 (WL.z (vP pb 0) 25 (WL.z (vP pb 5) 26 (WL.y (vS ga n n) 27 (x_load rfl rfl Tryz.underlying69 rfl (HP.cell hH7 0 rfl rfl)) (WL.z (.slice r9.q r9.t.length r9.c) 28 ?_))))))));refine WL.z (vS ga n n) 4 (WL.z (.slice r9.q r9.t.length r9.c) 5 (WL.k hK8 (WC.sb [(0,vP pb 0),(1,.slice none 0 0),(4,vS ga n n),(5,.slice r9.q r9.t.length r9.c),(6,.slice r9.q r9.t.length r9.c)] (WC.ret ?_))));refine WQ.ret2 4 5 rfl rfl rfl ?_;exact⟨ga,T9,r9,rfl,hH7,hT9,hX9⟩
def mkK (K:Bool) (s y l:Int) (c:Nat→Int) (n:Nat) (R:Fl.Tr) (i:Nat):Bool:=(ageT ((Fl.sol (opsK K s y l) (cdOf c n) R [] (fun _=>[])).2 i) ((i:Int)/l)).isSome
def MarkRK (K:Bool) (s y l m:Int) (c A B:Nat→Int) (n:Nat) (R:Fl.Tr) (w:World) (e:Ending) (w':World):Prop :=
  (okC s y l m c A B n=false∧e=.returned (.tuple #[.slice none 0 0,vI 1])∧Below w.heap.size w w') ∨
  (okC s y l m c A B n=true∧∃ go,e=.returned (.tuple #[vS go n n,vI 0])∧HP Tr w w' [.cel go (brow n (mkK K s y l c n R)) 4])
theorem mkF_endK {K:Bool} {s y l:Int} {c:Nat→Int} {n:Nat} {R:Fl.Tr} {T:Nat→TbI} (h:tabs T=(Fl.sol (opsK K s y l) (cdOf c n) R [] (fun _=>[])).2) {i:Nat} (hi:n≤i):∀ j,j<n→mkF (tabs T) l i j=mkK K s y l c n R j:=fun j hj=>by
  unfold mkF mkK;rw [decide_eq_true (show j<i by omega),Bool.true_and,h]
theorem marksK_any (K:Bool) (s y l m:Int) (p:Option Addr) (n cap:Nat) (c A B:Nat→Int) (R:Fl.Tr) (hR:okC s y l m c A B n=true→Fl.Is (cdOf c n) R 0 n∧∀ (pb:Nat) (cq:Option Addr) (cap b6 b4 ga:Nat),BrAll (BrPK K s y l m pb cq n cap b6 b4 ga c A B) (BrAK K s y l m pb cq n cap b6 b4 ga c A B) R) (w:World) (hIn:Ec.InC w p n c A B) (hn:n≤400) :
  Calls Tryz.prog 18 #[.agg #[vI s,vI y,vI l,vI m],.slice p n cap,.func (.func (fhK K)) #[] #[],.func (.func (fjK K)) #[] #[]] w (MarkRK K s y l m c A B n R w):=by
 refine calls_of Tryz.func18 rfl (m:=54) rfl [(0,.agg #[vI s,vI y,vI l,vI m]),(1,.slice p n cap),(2,.func (.func (fhK K)) #[] #[]),(3,.func (.func (fjK K)) #[] #[])] (Fr_enter [.agg #[vI s,vI y,vI l,vI m],.slice p n cap,.func (.func (fhK K)) #[] #[],.func (.func (fjK K)) #[] #[]] 54 (Nat.le_of_ble_eq_true rfl)) ?_;have hH1:HP Tr w w []:=HP.refl w;refine WC.seq fun K2 hK2=>WC.region ?_;refine WL.alloc (c:=#[vI s,vI y,vI l,vI m]) (T:=23) hH1 4 rfl (by decide) rfl rfl (fun b4=>vP b4 0) (by kernel_rfl) (fun b4 w3 hw3=>?_);have hH4:HP Tr w w3 [.cel b4 #[vI s,vI y,vI l,vI m] 23]:=hw3.2;have nb4:=hw3.1;clear hw3;refine WL.alloc (c:=#[.func (.func (fhK K)) #[] #[]]) (T:=44) hH4 6 rfl (by decide) rfl rfl (fun b6=>vP b6 0) (by kernel_rfl) (fun b6 w5 hw5=>?_);have hH6:HP Tr w w5 [.cel b4 #[vI s,vI y,vI l,vI m] 23,.cel b6 #[.func (.func (fhK K)) #[] #[]] 44]:=hw5.2;have nb6:=hw5.1;clear hw5;refine WL.z (.slice none 0 0) 8 (WL.z (vI 0) 9 (WL.k hK2 (WC.seq fun K7 hK7=>WC.seq fun K8 hK8=>WC.region (WL.y (.agg #[vI s,vI y,vI l,vI m]) 15 (x_loadS (cs:=[vI s,vI y,vI l,vI m]) rfl rfl Tryz.underlying23 rfl sz23 (HP.range hH6 0 rfl rfl)) (WL.z (.slice p n cap) 16 ?_)))));rcases Bool.eq_false_or_eq_true (okC s y l m c A B n) with hok | hok
 ·
  obtain⟨hg0,hc0,hf0⟩:=okC_iff.1 hok;obtain⟨hIs0,hbr0⟩:=hR hok;have hg:=vG_iff.1 hg0;have hn9:=(Ec.chk_ok hc0).1;refine WL.c 32 #[.agg #[vI s,vI y,vI l,vI m],.slice p n cap] 17 ?_;refine(checked_at hok p cap _ (hIn.below (HP.below hH6)) hn).mono ?_;rintro e w9 ⟨rfl,hb10⟩;refine⟨_,rfl,?_⟩;have hH11:=HP.call hH6 hb10;refine WL.z (.bool false) 18 (WL.k hK8 ?_);refine WC.no rfl ?_;refine WC.skip (WQ.then (hK7 _ _ _ (WC.seq fun K12 hK12=>WC.region (WL.z (.slice p n cap) 19 (WL.z (.func (.func 33) #[] #[vP b6 0,vP b4 0]) 20 (WL.z (.func (.func (fjK K)) #[] #[]) 21 (WL.z (.agg #[.slice p n cap,.func (.func 33) #[] #[vP b6 0,vP b4 0],.func (.func (fjK K)) #[] #[],.func (.func 34) #[] #[],.func (.func 35) #[] #[],.slice none 0 0]) 22 ?_)))))));refine WL.alloc (c:=#[.slice p n cap,.func (.func 33) #[] #[vP b6 0,vP b4 0],.func (.func (fjK K)) #[] #[],.func (.func 34) #[] #[],.func (.func 35) #[] #[],.slice none 0 0]) (T:=71) hH11 23 rfl (by decide) rfl rfl (fun b23=>vP b23 0) (by kernel_rfl) (fun b23 w13 hw13=>?_);have hH14:HP Tr w w13 [.cel b4 #[vI s,vI y,vI l,vI m] 23,.cel b6 #[.func (.func (fhK K)) #[] #[]] 44,.cel b23 #[.slice p n cap,.func (.func 33) #[] #[vP b6 0,vP b4 0],.func (.func (fjK K)) #[] #[],.func (.func 34) #[] #[],.func (.func 35) #[] #[],.slice none 0 0] 71]:=hw13.2;have nb23:=hw13.1;clear hw13;refine WL.z (vP b23 0) 10 (WL.k hK12 (WC.sb [(0,.agg #[vI s,vI y,vI l,vI m]),(1,.slice p n cap),(2,.func (.func (fhK K)) #[] #[]),(3,.func (.func (fjK K)) #[] #[]),(4,vP b4 0),(6,vP b6 0),(8,.slice none 0 0),(9,vI 0),(10,vP b23 0),(18,.bool false)] (WC.seq fun K15 hK15=>WC.region (WL.z (vP b23 0) 25 ?_))));refine WL.c 36 #[vP b23 0,.slice none 0 0] 26 ?_;refine(solveK_any K s y l m b23 p n cap b6 b4 c A B hg0 hc0 R hIs0 (hbr0 b23 p cap b6 b4) _ (HP.ownB (A:=[Go.Proofs.YtmjnakhpekbenaaGreat.Fw.Ent.cel b4 #[vI s,vI y,vI l,vI m] 23,Go.Proofs.YtmjnakhpekbenaaGreat.Fw.Ent.cel b6 #[.func (.func (fhK K)) #[] #[]] 44]) hH14) (hIn.below (HP.below hH14)) (HP.range hH14 0 rfl rfl) (HP.cell hH14 1 rfl rfl) (ne_of hH14 1 2 (by decide) rfl rfl rfl rfl)).mono ?_
  rintro e w9 ⟨ga,T9,r9,rfl,hb9,hT9,hX9⟩;refine⟨_,rfl,?_⟩;have hsT:tabs T9=(Fl.sol (opsK K s y l) (cdOf c n) R [] (fun _=>[])).2:=congrArg Prod.snd hX9;have hH16:HP Tr w _ [.cel b4 #[vI s,vI y,vI l,vI m] 23,.cel b6 #[.func (.func (fhK K)) #[] #[]] 44,.cel b23 #[.slice p n cap,.func (.func 33) #[] #[vP b6 0,vP b4 0],.func (.func (fjK K)) #[] #[],.func (.func 34) #[] #[],.func (.func 35) #[] #[],vS ga n n] 71,.cel ga (aR n T9) 64]:=HP.exch (A:=[Go.Proofs.YtmjnakhpekbenaaGreat.Fw.Ent.cel b4 #[vI s,vI y,vI l,vI m] 23,Go.Proofs.YtmjnakhpekbenaaGreat.Fw.Ent.cel b6 #[.func (.func (fhK K)) #[] #[]] 44]) hH14 hb9;refine WL.z (.tuple #[vS ga n n,.slice r9.q r9.t.length r9.c]) 24 (WL.z (vS ga n n) 27 (WL.z (.slice r9.q r9.t.length r9.c) 28 (WL.z (vS ga n n) 11 (WL.z (.slice r9.q r9.t.length r9.c) 12 (WL.k hK15 (WC.sb [(0,.agg #[vI s,vI y,vI l,vI m]),(1,.slice p n cap),(2,.func (.func (fhK K)) #[] #[]),(3,.func (.func (fjK K)) #[] #[]),(4,vP b4 0),(6,vP b6 0),(8,.slice none 0 0),(9,vI 0),(10,vP b23 0),(11,vS ga n n),(18,.bool false)] (WC.seq fun K17 hK17=>?_)))))));have hInvS:=hH16;refine WC.region (WL.z (.slice p n cap) 29 (WL.z (vI (n:Int)) 30 ?_));have hT8:=hT9;refine WL.alloc (c:=brow n (fun _=>false)) (T:=4) (HP.refl (S:=Tr) w9) 31 rfl (by decide) rfl rfl (fun go=>vS go n n) (x_makeR rfl rfl rfl (makeB n (by omega) _)) (fun go w10 hw9=>?_);have hH18:HP Tr w9 w10 [.cel go (brow n (fun _=>false)) 4]:=hw9.2;refine WL.z (vS go n n) 13 (WL.k hK17 (WC.seq fun K19 hK19=>WC.seq fun K20 hK20=>?_));have hal9:=HP.below hH18;have hH21:HP Tr w _ [.cel b4 #[vI s,vI y,vI l,vI m] 23,.cel b6 #[.func (.func (fhK K)) #[] #[]] 44,.cel b23 #[.slice p n cap,.func (.func 33) #[] #[vP b6 0,vP b4 0],.func (.func (fjK K)) #[] #[],.func (.func 34) #[] #[],.func (.func 35) #[] #[],vS ga n n] 71,.cel ga (aR n T9) 64,.cel go (brow n (fun _=>false)) 4]:=HP.trans hInvS hH18
  refine WC.region (WL.z (.slice p n cap) 32 (WL.z (vI (n:Int)) 33 (WL.z (vI 0) 34 (WL.k hK20 (WC.block ?_)))));refine WC.loop (fun kk0 ll0 ww0=>∃ (i:Nat),ll0=[(4,vP b4 0),(11,vS ga n n),(13,vS go n n),(33,vI (n:Int)),(34,vI (i:Int))]∧kk0=n-i∧(i≤n)∧(∀ i9,TbOk s y l m ww0 (T9 i9))∧HP Tr w ww0 [.cel b4 #[vI s,vI y,vI l,vI m] 23,.cel b6 #[.func (.func (fhK K)) #[] #[]] 44,.cel b23 #[.slice p n cap,.func (.func 33) #[] #[vP b6 0,vP b4 0],.func (.func (fjK K)) #[] #[],.func (.func 34) #[] #[],.func (.func 35) #[] #[],vS ga n n] 71,.cel ga (aR n T9) 64,.cel go (brow n (mkF (tabs T9) l i)) 4]) (n) [(4,vP b4 0),(11,vS ga n n),(13,vS go n n),(33,vI (n:Int)),(34,vI 0)] ⟨rfl,rfl,rfl,rfl,rfl,trivial⟩ ⟨0,rfl,rfl,Nat.zero_le _,(fun i9=>(hT8 i9).below hal9),(by rw [show brow n (mkF (tabs T9) l 0)=brow n (fun _=>false) from brow_congr (fun j _=>mkF_0 (tabs T9) l j)];exact hH21)⟩ ?_;rintro kk l w23 ⟨i,rfl,hkk,hi,hTn,hH24⟩ K22 hK22;have hInv:=hH24;have hB9:=HP.ownB (A:=[Go.Proofs.YtmjnakhpekbenaaGreat.Fw.Ent.cel b4 #[vI s,vI y,vI l,vI m] 23,Go.Proofs.YtmjnakhpekbenaaGreat.Fw.Ent.cel b6 #[.func (.func (fhK K)) #[] #[]] 44,Go.Proofs.YtmjnakhpekbenaaGreat.Fw.Ent.cel b23 #[.slice p n cap,.func (.func 33) #[] #[vP b6 0,vP b4 0],.func (.func (fjK K)) #[] #[],.func (.func 34) #[] #[],.func (.func 35) #[] #[],vS ga n n] 71,Go.Proofs.YtmjnakhpekbenaaGreat.Fw.Ent.cel ga (aR n T9) 64]) hInv;have hH25:=HP.startB hB9;refine WC.seq fun K26 hK26=>WC.region ?_;by_cases hlt:(i:Int)<(n:Int)
  ·
   refine WL.y (.bool true) 35 (x_lss rfl rfl rfl (dT (hlt))) (WL.k hK26 (WC.seq fun K27 hK27=>?_));refine WC.yes rfl ?_;refine WC.skip (WQ.then (hK27 _ _ _ (WC.seq fun K28 hK28=>WC.block (WC.seq fun K29 hK29=>WC.region (WL.z (vI (i:Int)) 36 (WL.z (vI (i:Int)) 14 (WL.k hK29 ?_)))))));have hx9:=line_of hg.2.2.1 (show i≤999 by omega);refine WC.confG (γ:=Nat × Unit) [(14,vI (i:Int)),(36,vI (i:Int)),(35,.bool true),(4,vP b4 0),(11,vS ga n n),(13,vS go n n),(33,vI (n:Int)),(34,vI (i:Int))] (fun gy=>[vS go n n,vI (i:Int),vS ga n n,vI (i:Int),vP ga i,.slice ((T9 i).q) ((T9 i).t.length) ((T9 i).c),vI (i:Int),vP b4 2,vI l,vI ((i:Int)/l),.tuple #[vI (gy.1:Int),.bool ((ageT (T9 i).t ((i:Int)/l)).isSome)],.tuple #[vI (gy.1:Int),.bool ((ageT (T9 i).t ((i:Int)/l)).isSome)],vI (gy.1:Int),.bool ((ageT (T9 i).t ((i:Int)/l)).isSome),vP go i,undef]) (fun gy D wz=>HP (Out [Go.Proofs.YtmjnakhpekbenaaGreat.Fw.Ent.cel go (brow n (mkF (tabs T9) l i)) 4]) w23 wz [(bif D 15 then Ent.cel go (brow n (upB (mkF (tabs T9) l i) i ((ageT (T9 i).t ((i:Int)/l)).isSome))) 4 else Ent.cel go (brow n (mkF (tabs T9) l i)) 4)]) (0,()) (by kernel_rfl) ⟨rfl,rfl,rfl,rfl,rfl,rfl,rfl,rfl,trivial⟩ (by kernel_rfl) (by kernel_rfl) (by kernel_rfl) (fun _=>rfl) (by kernel_rfl) (HP.drew hH25) ?_ ?_
   ·
    refine AllOk.cons ?o0 (AllOk.cons ?o1 (AllOk.cons ?o2 (AllOk.cons ?o3 (AllOk.cons ?o4 (AllOk.cons ?o5 (AllOk.cons ?o6 (AllOk.cons ?o7 (AllOk.cons ?o8 (AllOk.cons ?o9 (AllOk.cons ?o10 (AllOk.cons ?o11 (AllOk.cons ?o12 (AllOk.cons ?o13 (AllOk.cons ?o14 (AllOk.cons ?o15 (AllOk.nil _))))))))))))))))
    case o0 =>
     intro gy D wz hDi hdep hclo hW;exact cfv gy wz (by kernel_rfl) hW
    case o1 =>
     intro gy D wz hDi hdep hclo hW;exact cfv gy wz (by kernel_rfl) hW
    case o2 =>
     intro gy D wz hDi hdep hclo hW;exact cfv gy wz (by kernel_rfl) hW
    case o3 =>
     intro gy D wz hDi hdep hclo hW;exact cfv gy wz (by kernel_rfl) hW
    case o4 =>
     intro gy D wz hDi hdep hclo hW;exact cfv gy wz (x_ix (b:=ga) (off:=0) i i Tryz.underlying69 sz64) hW
    case o5 =>
     intro gy D wz hDi hdep hclo hW;exact cfv gy wz (x_load rfl rfl Tryz.underlying64 rfl (HP.old hW (out1 (ne_of hInv 3 4 (by decide) rfl rfl rfl rfl)) (HP.cell hInv 3 rfl (aR_get (by omega))))) hW
    case o6 =>
     intro gy D wz hDi hdep hclo hW;exact cfv gy wz (by kernel_rfl) hW
    case o7 =>
     intro gy D wz hDi hdep hclo hW;exact cfv gy wz (by kernel_rfl) hW
    case o8 =>
     intro gy D wz hDi hdep hclo hW;exact cfv gy wz (x_load rfl rfl Tryz.underlying3 rfl (HP.old hW (out1 (ne_of hInv 0 4 (by decide) rfl rfl rfl rfl)) (HP.cell (off:=2) hInv 0 rfl rfl))) hW
    case o9 =>
     intro gy D wz hDi hdep hclo hW;exact cfv gy wz (x_quo rfl rfl rfl (by omega) (tdiv_pos (by omega) (by omega)) (by have:=hx9;omega) (by have:=hx9;omega)) hW
    case o10 =>
     intro gy D wz hDi hdep hclo hW;have d15:D 15=false:=by
      cases h:D 15 with
      | false=>rfl
      | true=>exact absurd (hclo 15 _ rfl h ⟨10,.chain⟩ (by simp) rfl) (by rw [hDi];exact Bool.false_ne_true)
     have d11:D 11=false:=by
      cases h:D 11 with
      | false=>rfl
      | true=>exact absurd (hclo 11 _ rfl h ⟨10,.data⟩ (by simp) rfl) (by rw [hDi];exact Bool.false_ne_true)
     have d12:D 12=false:=by
      cases h:D 12 with
      | false=>rfl
      | true=>exact absurd (hclo 12 _ rfl h ⟨11,.data⟩ (by simp) rfl) (by rw [d11];exact Bool.false_ne_true)
     have hW2:=hW
     try simp only [d15,hDi,cond_true,cond_false,List.append_nil,List.nil_append,List.cons_append] at hW2
     refine .inl ⟨rfl,rfl,.inr (.inr ⟨37,#[.slice ((T9 i).q) ((T9 i).t.length) ((T9 i).c),vI ((i:Int)/l)],by kernel_rfl,(find2_any (T9 i).q (T9 i).t (T9 i).c _ (keepT (hTn i) (fun b o x hc=>out_bool hB9 hc) hW2).inn ((i:Int)/l) (by have:=(hTn i).ok.len;omega) (hTn i).ok.so).mono ?_⟩)⟩;rintro e w3 ⟨k9,rfl,hb9⟩;have hA:=HP.call hW2 hb9;refine⟨⟨k9,()⟩,fun j hj=>?_,rfl,?_⟩
     ·
      match j,hj with
      | 0,hj=>rfl
      | 1,hj=>rfl
      | 2,hj=>rfl
      | 3,hj=>rfl
      | 4,hj=>rfl
      | 5,hj=>rfl
      | 6,hj=>rfl
      | 7,hj=>rfl
      | 8,hj=>rfl
      | 9,hj=>rfl
      | 10,hj=>rw [hDi] at hj;cases hj
      | 11,hj=>exact absurd hj (by rw [d11];exact Bool.false_ne_true)
      | 12,hj=>exact absurd hj (by rw [d12];exact Bool.false_ne_true)
      | 13,hj=>rfl
      | 14,hj=>rfl
      | 15,hj=>rfl
      | j+16,_=>rfl
     ·
      show HP (Out [Go.Proofs.YtmjnakhpekbenaaGreat.Fw.Ent.cel go (brow n (mkF (tabs T9) l i)) 4]) w23 w3 [(bif D 15 then Ent.cel go (brow n (upB (mkF (tabs T9) l i) i ((ageT (T9 i).t ((i:Int)/l)).isSome))) 4 else Ent.cel go (brow n (mkF (tabs T9) l i)) 4)]
      try simp only [d15,cond_true,cond_false,List.append_nil,List.nil_append,List.cons_append]
      exact hA
    case o11 =>
     intro gy D wz hDi hdep hclo hW;exact cfv gy wz (by kernel_rfl) hW
    case o12 =>
     intro gy D wz hDi hdep hclo hW;exact cfv gy wz (by kernel_rfl) hW
    case o13 =>
     intro gy D wz hDi hdep hclo hW;exact cfv gy wz (by kernel_rfl) hW
    case o14 =>
     intro gy D wz hDi hdep hclo hW;exact cfv gy wz (x_ix (i) (i) Tryz.underlying26 sz4) hW
    case o15 =>
     intro gy D wz hDi hdep hclo hW;have hW9:=hW;simp only [hDi,cond_false] at hW9;have h4:=HP.set (off:=i) (v:=.bool ((ageT (T9 i).t ((i:Int)/l)).isSome)) hW9 0 rfl;rw [brow_set] at h4;exact .inl ⟨rfl,rfl,.inr (.inl ⟨_,x_store rfl rfl rfl sz4 rfl (HP.cell hW9 0 rfl (brow_get (by omega) rfl)) (HP.free hW9 0 rfl),rfl,h4⟩)⟩
   rintro ⟨k9,gu⟩ D w30 hall hH31;simp only [hall 15 (by kernel_rfl),cond_true,List.append_nil,List.nil_append,List.cons_append] at hH31;clear hall;refine WQ.sb [(4,vP b4 0),(11,vS ga n n),(13,vS go n n),(14,vI (i:Int)),(33,vI (n:Int)),(34,vI (i:Int)),(35,.bool true)] (WQ.inNormal (WQ.then (hK28 _ _ _ (WC.region (WL.y (vI ((i+1:Nat):Int)) 52 (x_ad (((i+1:Nat):Int))) (WL.z (vI ((i+1:Nat):Int)) 34 (WL.nil ?_)))))));have hnb:brow n (upB (mkF (tabs T9) l i) i (ageT (T9 i).t ((i:Int)/l)).isSome)=brow n (mkF (tabs T9) l (i+1)):=brow_congr (fun j hj=>mkF_step (tabs T9) l i j);have hF9:=hH31;rw [hnb] at hF9;refine WQ.sb [(4,vP b4 0),(11,vS ga n n),(13,vS go n n),(33,vI (n:Int)),(34,vI ((i+1:Nat):Int))] ?_;refine WQ.then (hK22 _ _ _ (by omega) ⟨i+1,rfl,rfl,by omega,(fun i9=>keepT (hTn i9) (fun b o x hc=>out_bool hB9 hc) hF9),(HP.exch (A:=[Go.Proofs.YtmjnakhpekbenaaGreat.Fw.Ent.cel b4 #[vI s,vI y,vI l,vI m] 23,Go.Proofs.YtmjnakhpekbenaaGreat.Fw.Ent.cel b6 #[.func (.func (fhK K)) #[] #[]] 44,Go.Proofs.YtmjnakhpekbenaaGreat.Fw.Ent.cel b23 #[.slice p n cap,.func (.func 33) #[] #[vP b6 0,vP b4 0],.func (.func (fjK K)) #[] #[],.func (.func 34) #[] #[],.func (.func 35) #[] #[],vS ga n n] 71,Go.Proofs.YtmjnakhpekbenaaGreat.Fw.Ent.cel ga (aR n T9) 64]) hInv hF9)⟩)
  ·
   refine WL.y (.bool false) 35 (x_lss rfl rfl rfl (dF (hlt))) (WL.k hK26 (WC.seq fun K32 hK32=>?_));refine WC.no rfl ?_;refine WC.exit (WQ.thenExit (WQ.thenExit (WQ.inExit (WQ.then (hK19 _ _ _ (WC.seq fun K33 hK33=>WC.region (WL.z (vS go n n) 53 (WL.z (vS go n n) 8 (WL.z (vI 0) 9 (WL.nil ?_))))))))));refine WQ.then (hK33 _ _ _ (WC.ret ?_));refine WQ.ret2 8 9 rfl rfl rfl ?_;exact .inr ⟨hok,go,rfl,by rw [brow_congr (mkF_endK hsT (by omega))] at hInv;exact HP.drop (HP.drop (HP.drop (HP.drop hInv 3) 2) 1) 0⟩
 ·
  refine WL.c 32 #[.agg #[vI s,vI y,vI l,vI m],.slice p n cap] 17 ?_;refine(checked_at hok p cap _ (hIn.below (HP.below hH6)) hn).mono ?_;rintro e w34 ⟨rfl,hb35⟩;refine⟨_,rfl,?_⟩;have hH36:=HP.call hH6 hb35;refine WL.z (.bool true) 18 (WL.k hK8 ?_);refine WC.yes rfl ?_;refine WC.seq fun K37 hK37=>WC.region (WL.z (.slice none 0 0) 8 (WL.z (vI 1) 9 (WL.k hK37 (WC.ret ?_))));refine WQ.thenRet ?_;refine WQ.ret2 8 9 rfl rfl rfl ?_;exact .inl ⟨hok,rfl,HP.below hH36⟩
abbrev mk0 (s y l:Int) (c:Nat→Int) (n:Nat) (R:Fl.Tr) (i:Nat):Bool:=mkK false s y l c n R i
abbrev MarkR0 (s y l m:Int) (c A B:Nat→Int) (n:Nat) (R:Fl.Tr) (w:World) (e:Ending) (w':World):Prop:=MarkRK false s y l m c A B n R w e w'
abbrev mk1 (s y l:Int) (c:Nat→Int) (n:Nat) (R:Fl.Tr) (i:Nat):Bool:=mkK true s y l c n R i
abbrev MarkR1 (s y l m:Int) (c A B:Nat→Int) (n:Nat) (R:Fl.Tr) (w:World) (e:Ending) (w':World):Prop:=MarkRK true s y l m c A B n R w e w'
theorem marks0_any (s y l m:Int) (p:Option Addr) (n cap:Nat) (c A B:Nat→Int) (R:Fl.Tr) (hR:okC s y l m c A B n=true→Fl.Is (cdOf c n) R 0 n∧∀ (pb:Nat) (cq:Option Addr) (cap b6 b4 ga:Nat),BrAll (BrP0 s y l m pb cq n cap b6 b4 ga c A B) (BrA0 s y l m pb cq n cap b6 b4 ga c A B) R) (w:World) (hIn:Ec.InC w p n c A B) (hn:n≤400) :
    Calls Tryz.prog 18 #[.agg #[vI s,vI y,vI l,vI m],.slice p n cap,.func (.func 19) #[] #[],.func (.func 20) #[] #[]] w (MarkR0 s y l m c A B n R w):=marksK_any false s y l m p n cap c A B R hR w hIn hn
theorem marks1_any (s y l m:Int) (p:Option Addr) (n cap:Nat) (c A B:Nat→Int) (R:Fl.Tr) (hR:okC s y l m c A B n=true→Fl.Is (cdOf c n) R 0 n∧∀ (pb:Nat) (cq:Option Addr) (cap b6 b4 ga:Nat),BrAll (BrP1 s y l m pb cq n cap b6 b4 ga c A B) (BrA1 s y l m pb cq n cap b6 b4 ga c A B) R) (w:World) (hIn:Ec.InC w p n c A B) (hn:n≤400) :
    Calls Tryz.prog 18 #[.agg #[vI s,vI y,vI l,vI m],.slice p n cap,.func (.func 23) #[] #[],.func (.func 24) #[] #[]] w (MarkR1 s y l m c A B n R w):=marksK_any true s y l m p n cap c A B R hR w hIn hn
theorem opsK_f (s y l:Int):opsK false s y l=opsM s y l:=by simp only [opsK,opsM,jK,kK,muK,cond_false]
theorem opsK_t (s y l:Int):opsK true s y l=opsN s y l:=by simp only [opsK,opsN,jK,kK,muK,cond_true]
end Ca
end Go.Proofs.YtmjnakhpekbenaaGreat
namespace Go.Proofs.YtmjnakhpekbenaaGreat
set_option maxRecDepth 20000
set_option maxHeartbeats 4000000
open Go.RowKit Fw
namespace Ca
theorem Must_any (s y l m:Int) (p:Option Addr) (n cap:Nat) (c A B:Nat→Int) (R:Fl.Tr) (hR:okC s y l m c A B n=true→Fl.Is (cdOf c n) R 0 n∧∀ (pb:Nat) (cq:Option Addr) (cap b6 b4 ga:Nat),BrAll (BrP0 s y l m pb cq n cap b6 b4 ga c A B) (BrA0 s y l m pb cq n cap b6 b4 ga c A B) R) (w:World) (hIn:Ec.InC w p n c A B) (hn:n≤400) :
  Calls Tryz.prog 6 #[.agg #[vI s,vI y,vI l,vI m],.slice p n cap] w (MarkR0 s y l m c A B n R w):=by
 refine calls_of Tryz.func6 rfl (m:=11) rfl [(0,.agg #[vI s,vI y,vI l,vI m]),(1,.slice p n cap)] (Fr_enter [.agg #[vI s,vI y,vI l,vI m],.slice p n cap] 11 (Nat.le_of_ble_eq_true rfl)) ?_;have hH1:HP Tr w w []:=HP.refl w;refine WC.seq fun K2 hK2=>WC.region ?_;refine WL.alloc (c:=#[vI s,vI y,vI l,vI m]) (T:=23) hH1 2 rfl (by decide) rfl rfl (fun b2=>vP b2 0) (by kernel_rfl) (fun b2 w3 hw3=>?_);have hH4:HP Tr w w3 [.cel b2 #[vI s,vI y,vI l,vI m] 23]:=hw3.2;have nb2:=hw3.1;clear hw3;refine WL.z (.slice none 0 0) 4 (WL.z (vI 0) 5 (WL.k hK2 (WC.seq fun K5 hK5=>WC.region (WL.y (.agg #[vI s,vI y,vI l,vI m]) 6 (x_loadS (cs:=[vI s,vI y,vI l,vI m]) rfl rfl Tryz.underlying23 rfl sz23 (HP.range hH4 0 rfl rfl)) (WL.z (.slice p n cap) 7 ?_)))));refine WL.c 18 #[.agg #[vI s,vI y,vI l,vI m],.slice p n cap,.func (.func 19) #[] #[],.func (.func 20) #[] #[]] 8 ?_;refine(marks0_any s y l m p n cap c A B R hR _ (hIn.below (HP.below hH4)) hn).mono ?_;rintro e w4 (⟨hno,rfl,hb⟩ | ⟨hyes,go,rfl,hb⟩)
 ·
  refine⟨_,rfl,?_⟩;have hH6:=HP.call hH4 hb;refine WL.z (.slice none 0 0) 9 (WL.z (vI 1) 10 (WL.z (.slice none 0 0) 4 (WL.z (vI 1) 5 (WL.k hK5 (WC.sb [(0,.agg #[vI s,vI y,vI l,vI m]),(1,.slice p n cap),(2,vP b2 0),(4,.slice none 0 0),(5,vI 1)] (WC.ret ?_))))));refine WQ.ret2 4 5 rfl rfl rfl ?_;exact .inl ⟨hno,rfl,HP.below hH6⟩
 ·
  refine⟨_,rfl,?_⟩;have hH7:HP Tr w _ [.cel b2 #[vI s,vI y,vI l,vI m] 23,.cel go (brow n (mk0 s y l c n R)) 4]:=HP.trans hH4 hb;refine WL.z (vS go n n) 9 (WL.z (vI 0) 10 (WL.z (vS go n n) 4 (WL.z (vI 0) 5 (WL.k hK5 (WC.sb [(0,.agg #[vI s,vI y,vI l,vI m]),(1,.slice p n cap),(2,vP b2 0),(4,vS go n n),(5,vI 0)] (WC.ret ?_))))));refine WQ.ret2 4 5 rfl rfl rfl ?_;exact .inr ⟨hyes,go,rfl,HP.drop hH7 0⟩
def c0:Nat→Int:=fun _=>0
def R5:Fl.Tr:=.one 0 (.one 1 (.one 2 (.one 3 (.one 4 .nil))))
theorem ok5:okC 1 2 4 1 c0 c0 c0 5=true:=by kernel_rfl
theorem mk5:brow 5 (mk0 1 2 4 c0 5 R5)=#[.bool false,.bool true,.bool true,.bool true,.bool false]:=by kernel_rfl
theorem is5:Fl.Is (cdOf c0 5) R5 0 5:=⟨rfl,fun h=>absurd (show (29:Int)≤0 from h.1) (by decide),rfl,fun h=>absurd (show (29:Int)≤0 from h.1) (by decide),rfl,fun h=>absurd (show (29:Int)≤0 from h.1) (by decide),rfl,fun h=>absurd (show (29:Int)≤0 from h.1) (by decide),rfl,fun h=>absurd (show (29:Int)≤0 from h.1) (by decide),rfl⟩
theorem must5_any (gc:Nat) (w:World) (hIn:Ec.InC w (some ⟨gc,0,none⟩) 5 c0 c0 c0) :
    Calls Tryz.prog 6 #[.agg #[vI 1,vI 2,vI 4,vI 1],vS gc 5 5] w fun e w'=>∃ go,e=.returned (.tuple #[vS go 5 5,vI 0])∧HP Tr w w' [.cel go #[.bool false,.bool true,.bool true,.bool true,.bool false] 4] :=
  (Must_any 1 2 4 1 (some ⟨gc,0,none⟩) 5 5 c0 c0 c0 R5 (fun _=>⟨is5,fun _ _ _ _ _ _=>trivial⟩) w hIn (by decide)).mono fun e w' h=>by
    rcases h with ⟨h,_⟩ | ⟨_,go,h1,h2⟩
    · rw [ok5] at h;cases h
    · exact⟨go,h1,by rw [mk5] at h2;exact h2⟩
theorem touch5_any (q:Option Addr) (cp:Nat) (b10:Nat) (w:World) (hS:InS2 w q [⟨some ⟨b10,0,none⟩,[],0⟩]) :
    Calls Tryz.prog 17 #[.agg #[vI 1,vI 2,vI 4,vI 1],.slice q 1 cp,vI 1] w fun e w'=>∃ pv cp' r,e=.returned (.tuple #[.slice pv 1 cp',.bool false,vI 0])∧r.xs=[0]∧InS2 w' pv [r]∧Below w.heap.size w w' :=
  (Touch_any 1 2 4 1 1 q [⟨some ⟨b10,0,none⟩,[],0⟩] cp w hS (by simp)).mono fun e w' h=>by
    rcases h with ⟨h,_⟩ | ⟨_,pv,cp',S',h1,h2,h3,h4⟩
    · have e0 : stX [⟨some ⟨b10, 0, none⟩, [], 0⟩] = [[]] := rfl
      rw [e0] at h;exact absurd h (by decide +kernel)
    · have e1 : stp 1 2 4 1 (stX [⟨some ⟨b10, 0, none⟩, [], 0⟩]) = [[0]] := by kernel_rfl
      have e2:hitN 1 4 1 (stX [⟨some ⟨b10,0,none⟩,[],0⟩])=0:=(by kernel_rfl);rw [e1] at h2;rw [e2] at h1
      match S',h2,h1,h3 with
      | [],h2,_,_=>cases h2
      | [r],h2,h1,h3=>exact⟨pv,cp',r,h1,by simpa [stX] using h2,h3,h4⟩
      | r::r2::S',h2,_,_=>simp [stX] at h2
theorem info75:∃ i,Tryz.prog.info? 51=some i∧i.zero=some (.agg #[.int .i64 0,.int .i64 0,.int .i64 0])∧i.size=3∧i.bytes=24:=Ec.infoR'
theorem make5 (W:World):(Instr.makeSlice 24 (.int .i64 5) (.int .i64 5)).run Tryz.prog W=.ok (.slice (some ⟨W.heap.size,0,none⟩) 5 5) (W.alloc (.cells (madeCells #[.int .i64 0,.int .i64 0,.int .i64 0] (5*3)) 51)):=by
  obtain⟨i0,hi0,hz0,hz1,hz2⟩:=info75;have hr:=run_make (P:=Tryz.prog) W 24 51 i0 _ Tryz.underlying24 hi0 hz0 .i64 .i64 5 5 (by omega) (by omega) (by rw [hz2];omega) (by omega);rw [hz1] at hr;exact hr
theorem made15 {k:Nat} (hk:k<15):(madeCells #[Value.int .i64 0,.int .i64 0,.int .i64 0] (5*3))[k]?=some (Value.int .i64 0):=by
  have h:k % 3=0∨k % 3=1∨k % 3=2:=(by omega);unfold madeCells;rcases h with h | h | h <;> simp [hk,h]
theorem in5 {w:World} {g:Nat} (h:Ent.holds w (.cel g (madeCells #[.int .i64 0,.int .i64 0,.int .i64 0] (5*3)) 51)):Ec.InC w (some ⟨g,0,none⟩) 5 c0 c0 c0:=fun _=>⟨g,0,rfl,fun i hi j v hv=>by
  have h2:w.heap[g]?=some (.cells _ 51 (0,0)):=h;rw [cell_of_row w g _ _ 51 (0,0) h2];have hv2:v=.int .i64 0∧j<3:=by
    match j,hv with
    | 0,hv=>simp [c0] at hv;exact⟨hv.symm,by omega⟩
    | 1,hv=>simp [c0] at hv;exact⟨hv.symm,by omega⟩
    | 2,hv=>simp [c0] at hv;exact⟨hv.symm,by omega⟩
    | j+3,hv=>simp at hv
  obtain⟨rfl,hj⟩:=hv2;have hlt:0+i*3+j<15:=(by omega);generalize 0+i*3+j=k at hlt;exact made15 hlt⟩
theorem sane_any (w:World) :
  Calls Tryz.prog 5 #[] w fun e w'=>e=.returned (.bool true)∧Below w.heap.size w w':=by
 refine calls_of Tryz.func5 rfl (m:=74) rfl [] (Fr_enter [] 74 (Nat.le_of_ble_eq_true rfl)) ?_;have hH1:HP Tr w w []:=HP.refl w;refine WC.seq fun K2 hK2=>WC.region (WL.z (.bool false) 0 (WL.k hK2 (WC.seq fun K3 hK3=>WC.region (WL.z (.agg #[vI 1,vI 2,vI 4,vI 1]) 7 ?_))));refine WL.alloc (c:=#[vI 0,vI 0,vI 0,vI 0]) (T:=23) hH1 1 rfl (by decide) rfl rfl (fun b1=>vP b1 0) (by kernel_rfl) (fun b1 w4 hw4=>?_);have hH5:HP Tr w w4 [.cel b1 #[vI 0,vI 0,vI 0,vI 0] 23]:=hw4.2;have nb1:=hw4.1;clear hw4;refine WL.storeS (H2:=[.cel b1 #[vI 1,vI 2,vI 4,vI 1] 23]) 0 hH5 rfl rfl rfl rfl rfl rfl sz23 rfl (Nat.le_of_ble_eq_true rfl) rfl rfl ?_;intro w6 hH7;refine WL.k hK3 (WC.seq fun K8 hK8=>WC.region (WL.y (.agg #[vI 1,vI 2,vI 4,vI 1]) 9 (x_loadS (cs:=[vI 1,vI 2,vI 4,vI 1]) rfl rfl Tryz.underlying23 rfl sz23 (HP.range hH7 0 rfl rfl)) ?_));refine WL.alloc (c:=#[]) (T:=3) hH7 10 rfl (by decide) rfl rfl (fun b10=>vS b10 0 0) (by kernel_rfl) (fun b10 w9 hw9=>?_);have hH10:HP Tr w w9 [.cel b1 #[vI 1,vI 2,vI 4,vI 1] 23,.cel b10 #[] 3]:=hw9.2;have nb10:=hw9.1;clear hw9;refine WL.alloc (c:=#[vS b10 0 0]) (T:=32) hH10 11 rfl (by decide) rfl rfl (fun b11=>vS b11 1 1) (by kernel_rfl) (fun b11 w11 hw11=>?_);have hH12:HP Tr w w11 [.cel b1 #[vI 1,vI 2,vI 4,vI 1] 23,.cel b10 #[] 3,.cel b11 #[vS b10 0 0] 32]:=hw11.2;have nb11:=hw11.1;clear hw11;have hS9:InS2 _ (some ⟨b11,0,none⟩) [⟨some ⟨b10,0,none⟩,[],0⟩]:=⟨fun _=>⟨b11,0,rfl,fun i hi j v hv=>by
    have hi:i<1:=hi;obtain rfl:i=0:=by omega
    match j,hv with
    | 0,hv=>cases hv;exact HP.cell hH12 2 rfl rfl
    | j+1,hv=>simp at hv⟩,fun r hr=>by obtain rfl:=List.mem_singleton.1 hr;exact⟨fun h=>absurd h (by simp),Nat.le_refl _,Nat.zero_le _,fun x hx=>by cases hx⟩⟩
 refine WL.c 17 #[.agg #[vI 1,vI 2,vI 4,vI 1],vS b11 1 1,vI 1] 12 ?_;refine(touch5_any (some ⟨b11,0,none⟩) 1 b10 _ hS9).mono ?_;rintro e w13 ⟨pvt,cpt,rt,rfl,hrx,hIt,hb14⟩;refine⟨_,rfl,?_⟩;have hH15:=HP.call hH12 hb14;refine WL.z (.tuple #[.slice pvt 1 cpt,.bool false,vI 0]) 8 (WL.z (.slice pvt 1 cpt) 13 (WL.z (.bool false) 14 (WL.z (vI 0) 15 (WL.z (.slice pvt 1 cpt) 2 (WL.z (.bool false) 3 (WL.z (vI 0) 4 (WL.k hK8 (WC.sb [(0,.bool false),(1,vP b1 0),(2,.slice pvt 1 cpt),(3,.bool false),(4,vI 0)] (WC.seq fun K16 hK16=>?_)))))))));have hInv:=hH15;have hb1r:∀ i9,i9<1→World.rangeAt w13 b1 i9 [vI 1,vI 2,vI 4,vI 1]:=fun i9 h9=>match i9,h9 with | 0,_=>HP.range hInv 0 rfl rfl | n+1,h9=>absurd h9 (by omega)
 have hH17:HP Tr w13 w13 []:=HP.refl w13;refine WC.confG (γ:=Nat × Nat × Unit) [(0,.bool false),(1,vP b1 0),(2,.slice pvt 1 cpt),(3,.bool false),(4,vI 0)] (fun gy=>[.agg #[vI 1,vI 2,vI 4,vI 1],vS gy.1 5 5,.tuple #[vS gy.2.1 5 5,vI 0],.tuple #[vS gy.2.1 5 5,vI 0],vS gy.2.1 5 5,vI 0,vS gy.2.1 5 5,vI 0]) (fun gy D wz=>HP Tr w13 wz ([]++((bif D 1 then [Ent.cel gy.1 (madeCells #[.int .i64 0,.int .i64 0,.int .i64 0] (5*3)) 51] else [])++((bif D 2 then [Ent.cel gy.2.1 #[.bool false,.bool true,.bool true,.bool true,.bool false] 4] else [])++[])))) (0,0,()) (by kernel_rfl) ⟨rfl,rfl,rfl,rfl,rfl,trivial⟩ (by kernel_rfl) (by kernel_rfl) (by kernel_rfl) (fun _=>rfl) (by kernel_rfl) (HP.drew hH17) ?_ ?_
 ·
  refine AllOk.cons ?o0 (AllOk.cons ?o1 (AllOk.cons ?o2 (AllOk.cons ?o3 (AllOk.cons ?o4 (AllOk.cons ?o5 (AllOk.cons ?o6 (AllOk.cons ?o7 (AllOk.nil _))))))))
  case o0 =>
   intro gy D wz hDi hdep hclo hW;exact cfv gy wz (x_loadS (cs:=[vI 1,vI 2,vI 4,vI 1]) rfl rfl Tryz.underlying23 rfl sz23 (HP.oldRange hW trivial (hb1r 0 (by omega)))) hW
  case o1 =>
   intro gy D wz hDi hdep hclo hW;have d2:D 2=false:=by
    cases h:D 2 with
    | false=>rfl
    | true=>exact absurd (hclo 2 _ rfl h ⟨1,.data⟩ (by simp) rfl) (by rw [hDi];exact Bool.false_ne_true)
   have hW2:=hW
   try simp only [d2,hDi,cond_true,cond_false,List.append_nil,List.nil_append,List.cons_append] at hW2
   refine cf_alloc (c:=(madeCells #[.int .i64 0,.int .i64 0,.int .i64 0] (5*3))) (T:=51) hW2 (fun b18=>vS b18 5 5) rfl rfl (x_makeR rfl rfl rfl (make5 _)) ?_;rintro b18 w3 hA;refine⟨⟨b18,gy.2.1,()⟩,fun j hj=>?_,rfl,?_⟩
   ·
    match j,hj with
    | 0,hj=>rfl
    | 1,hj=>rw [hDi] at hj;cases hj
    | 2,hj=>rfl
    | 3,hj=>rfl
    | 4,hj=>rfl
    | 5,hj=>rfl
    | 6,hj=>rfl
    | 7,hj=>rfl
    | j+8,_=>rfl
   ·
    show HP Tr w13 w3 ([]++([Ent.cel b18 (madeCells #[.int .i64 0,.int .i64 0,.int .i64 0] (5*3)) 51]++((bif D 2 then [Ent.cel gy.2.1 #[.bool false,.bool true,.bool true,.bool true,.bool false] 4] else [])++[])))
    try simp only [d2,cond_true,cond_false,List.append_nil,List.nil_append,List.cons_append]
    exact hA
  case o2 =>
   intro gy D wz hDi hdep hclo hW;have d1:D 1=true:=hdep ⟨1,.data⟩ (by simp) rfl;have d3:D 3=false:=by
    cases h:D 3 with
    | false=>rfl
    | true=>exact absurd (hclo 3 _ rfl h ⟨2,.data⟩ (by simp) rfl) (by rw [hDi];exact Bool.false_ne_true)
   have d4:D 4=false:=by
    cases h:D 4 with
    | false=>rfl
    | true=>exact absurd (hclo 4 _ rfl h ⟨3,.data⟩ (by simp) rfl) (by rw [d3];exact Bool.false_ne_true)
   have d6:D 6=false:=by
    cases h:D 6 with
    | false=>rfl
    | true=>exact absurd (hclo 6 _ rfl h ⟨2,.chain⟩ (by simp) rfl) (by rw [hDi];exact Bool.false_ne_true)
   have hW2:=hW
   try simp only [d1,hDi,cond_true,cond_false,List.append_nil,List.nil_append,List.cons_append] at hW2
   refine .inl ⟨rfl,rfl,.inr (.inr ⟨6,#[.agg #[vI 1,vI 2,vI 4,vI 1],vS gy.1 5 5],by kernel_rfl,(must5_any gy.1 _ (in5 (HP.get hW2 0 rfl))).mono ?_⟩)⟩;rintro e w3 ⟨go,rfl,hb9⟩;have hA:=HP.trans hW2 hb9;refine⟨⟨gy.1,go,()⟩,fun j hj=>?_,rfl,?_⟩
   ·
    match j,hj with
    | 0,hj=>rfl
    | 1,hj=>rfl
    | 2,hj=>rw [hDi] at hj;cases hj
    | 3,hj=>exact absurd hj (by rw [d3];exact Bool.false_ne_true)
    | 4,hj=>exact absurd hj (by rw [d4];exact Bool.false_ne_true)
    | 5,hj=>rfl
    | 6,hj=>exact absurd hj (by rw [d6];exact Bool.false_ne_true)
    | 7,hj=>rfl
    | j+8,_=>rfl
   ·
    show HP Tr w13 w3 ([]++((bif D 1 then [Ent.cel gy.1 (madeCells #[.int .i64 0,.int .i64 0,.int .i64 0] (5*3)) 51] else [])++([Ent.cel go #[.bool false,.bool true,.bool true,.bool true,.bool false] 4]++[])))
    try simp only [d1,cond_true,cond_false,List.append_nil,List.nil_append,List.cons_append]
    exact hA
  case o3 =>
   intro gy D wz hDi hdep hclo hW;exact cfv gy wz (by kernel_rfl) hW
  case o4 =>
   intro gy D wz hDi hdep hclo hW;exact cfv gy wz (by kernel_rfl) hW
  case o5 =>
   intro gy D wz hDi hdep hclo hW;exact cfv gy wz (by kernel_rfl) hW
  case o6 =>
   intro gy D wz hDi hdep hclo hW;exact cfv gy wz (by kernel_rfl) hW
  case o7 =>
   intro gy D wz hDi hdep hclo hW;exact cfv gy wz (by kernel_rfl) hW
 rintro ⟨b18,go,gu⟩ D w18 hall hH19;simp only [hall 1 (by kernel_rfl),hall 2 (by kernel_rfl),cond_true,List.append_nil,List.nil_append,List.cons_append] at hH19;clear hall;refine WQ.sb [(0,.bool false),(1,vP b1 0),(2,.slice pvt 1 cpt),(3,.bool false),(4,vI 0),(5,vS go 5 5),(6,vI 0)] (WQ.then (hK16 _ _ _ (WC.seq fun K20 hK20=>?_)));obtain⟨gt,ot,rfl,hrt⟩:=hIt.row (by simp);obtain⟨gr,orr,hqr,hrr⟩:=(hIt.inn rt (by simp)).row (by simp [hrx]);refine WC.region (WL.z (vI 0) 22 (WL.y (.bool true) 23 (x_eql rfl rfl rfl (by decide)) (WL.z (.bool true) 24 (WL.z (.bool false) 25 (WL.z (.bool true) 26 (WL.z (.bool true) 27 (WL.z (.bool true) 28 (WL.z (.slice (some ⟨gt,ot,none⟩) 1 cpt) 29 (WL.z (vI 1) 30 (WL.y (.bool true) 31 (x_eql rfl rfl rfl (by decide)) (WL.z (.bool true) 32 ?_)))))))))));refine WL.z (.bool true) 33 (WL.z (.slice (some ⟨gt,ot,none⟩) 1 cpt) 34 (WL.y (vP gt ot) 35 (x_ix (0) (ot) Tryz.underlying33 sz32) (WL.y (.slice (some ⟨gr,orr,none⟩) 1 rt.c) 36 (x_load rfl rfl Tryz.underlying32 rfl (by have q9:=(hrt 0 (by simp)) 0 _ rfl;simp only [List.getD_cons_zero,slV,hqr,hrx,List.length_cons,List.length_nil] at q9;exact HP.old hH19 trivial q9)) (WL.z (vI 1) 37 (WL.y (.bool true) 38 (x_eql rfl rfl rfl (by decide)) (WL.z (.bool true) 39 (WL.z (.bool true) 40 (WL.z (.slice (some ⟨gt,ot,none⟩) 1 cpt) 41 (WL.y (vP gt ot) 42 (x_ix (0) (ot) Tryz.underlying33 sz32) (WL.y (.slice (some ⟨gr,orr,none⟩) 1 rt.c) 43 (x_load rfl rfl Tryz.underlying32 rfl (by have q9:=(hrt 0 (by simp)) 0 _ rfl;simp only [List.getD_cons_zero,slV,hqr,hrx,List.length_cons,List.length_nil] at q9;exact HP.old hH19 trivial q9)) ?_))))))))));refine WL.y (vP gr orr) 44 (x_ix (0) (orr) Tryz.underlying32 sz3) (WL.y (vI 0) 45 (x_load rfl rfl Tryz.underlying3 rfl (by have q9:=(hrr 0 (by simp [hrx])) 0 _ rfl;rw [hrx] at q9;exact HP.old hH19 trivial q9)) (WL.y (.bool true) 46 (x_eql rfl rfl rfl (by decide)) (WL.z (.bool true) 47 (WL.z (.bool true) 48 (WL.z (vI 0) 49 (WL.y (.bool true) 50 (x_eql rfl rfl rfl (by decide)) (WL.z (.bool true) 51 (WL.z (.bool true) 52 (WL.z (vS go 5 5) 53 (WL.z (vI 5) 54 (WL.y (.bool true) 55 (x_eql rfl rfl rfl (by decide)) ?_)))))))))))
 refine WL.z (.bool true) 56 (WL.z (.bool true) 57 (WL.z (vS go 5 5) 58 (WL.y (vP go 0) 59 (x_ix (0) (0) Tryz.underlying26 sz4) (WL.y (.bool false) 60 (x_load rfl rfl Tryz.underlying4 rfl (HP.cell hH19 1 rfl rfl)) (WL.z (.bool true) 61 (WL.z (.bool true) 62 (WL.z (.bool true) 63 (WL.z (vS go 5 5) 64 (WL.y (vP go 1) 65 (x_ix (1) (1) Tryz.underlying26 sz4) (WL.y (.bool true) 66 (x_load rfl rfl Tryz.underlying4 rfl (HP.cell hH19 1 rfl rfl)) (WL.z (.bool true) 67 ?_)))))))))));refine WL.z (.bool true) 68 (WL.z (vS go 5 5) 69 (WL.y (vP go 4) 70 (x_ix (4) (4) Tryz.underlying26 sz4) (WL.y (.bool false) 71 (x_load rfl rfl Tryz.underlying4 rfl (HP.cell hH19 1 rfl rfl)) (WL.z (.bool true) 72 (WL.z (.bool true) 73 (WL.z (.bool true) 0 (WL.k hK20 (WC.sb [(0,.bool true),(1,vP b1 0),(2,.slice (some ⟨gt,ot,none⟩) 1 cpt),(3,.bool false),(4,vI 0),(5,vS go 5 5),(6,vI 0)] (WC.ret ?_)))))))));refine WQ.ret1 0 rfl rfl ?_;exact⟨rfl,HP.below (HP.trans hInv hH19)⟩
end Ca
end Go.Proofs.YtmjnakhpekbenaaGreat
namespace Go.Proofs.YtmjnakhpekbenaaGreat
set_option maxRecDepth 20000
set_option maxHeartbeats 4000000
open Go.RowKit Fw
namespace Ca
theorem eqTg (x y x' y':Int) (w:World):(Op.equalIn 10000 67 (.agg #[.int .i64 x,.int .i64 y]) (.agg #[.int .i64 x',.int .i64 y'])).run Tryz.prog w=.ok (decide (x=x'∧y=y')) w:=by
  have hi1:∀ (a a':Int) (w:World),(Op.equalIn 9999 3 (.int .i64 a) (.int .i64 a')).run Tryz.prog w=.ok (decide (a=a')) w:=fun a a' w=>by
    rw [show (9999:Nat)=9998+1 from rfl,run_equalIn_int w 9998 3 .i64 .i64 a a' Tryz.underlying3];by_cases h:a=a' <;> simp [h]
  obtain⟨i,hi⟩:∃ i,Tryz.prog.info? 3=some i:=Option.map_eq_some_iff.1 (show (Tryz.prog.info? 3).map (·.size)=some 1 by kernel_rfl) |>.imp fun _ h=>h.1;have hp:Tryz.prog.plainKey 3=true:=(by kernel_rfl);have hc:Tryz.prog.cellsOf 3=1:=(by kernel_rfl);rw [show (10000:Nat)=9999+1 from rfl,run_equalIn_array w 9999 _ _ Tryz.underlying67 hi,hc];have p0:∀ (x y:Int) (w:World),(part 3 #[Value.int .i64 x,.int .i64 y] (0*1)).run Tryz.prog w=.ok (.int .i64 x) w:=fun x y w=>run_part_plain w hp rfl;have p1:∀ (x y:Int) (w:World),(part 3 #[Value.int .i64 x,.int .i64 y] (1*1)).run Tryz.prog w=.ok (.int .i64 y) w:=fun x y w=>run_part_plain w hp rfl;have e2:List.range 2=[0,1]:=rfl;rw [e2];by_cases h1:x=x'
  · by_cases h2 : y = y'
    · simp [Op.eqItems,Sem.run_bind,p0,p1,hi1,Result.andThen_ok,h1,h2]
    · simp [Op.eqItems,Sem.run_bind,p0,p1,hi1,Result.andThen_ok,h1,h2]
  · simp [Op.eqItems,Sem.run_bind,p0,p1,hi1,Result.andThen_ok,h1]
theorem tab_eq {t u:List T2} (hl:t.length=u.length) (h:∀ i,i<t.length→lnT t i=lnT u i∧agT t i=agT u i):t=u :=
  List.ext_getElem hl fun i h1 h2=>by
    have:=h i h1;rw [lnT_get h1,lnT_get h2,agT_get h1,agT_get h2] at this;exact Prod.ext this.1 this.2
theorem Equal_any (p p2:Option Addr) (t u:List T2) (cp cp2:Nat) (w:World) (hT:InT w p t) (hU:InT w p2 u) (hn:t.length≤281474976710656) :
  Calls Tryz.prog 34 #[.slice p t.length cp,.slice p2 u.length cp2] w fun e w'=>e=.returned (.bool (decide (t=u)))∧Below w.heap.size w w':=by
 refine calls_of Tryz.func34 rfl (m:=26) rfl [(0,.slice p t.length cp),(1,.slice p2 u.length cp2)] (Fr_enter [.slice p t.length cp,.slice p2 u.length cp2] 26 (Nat.le_of_ble_eq_true rfl)) ?_;have hH1:HP Tr w w []:=HP.refl w;refine WC.seq fun K2 hK2=>WC.region (WL.z (.bool false) 4 (WL.k hK2 (WC.seq fun K3 hK3=>WC.seq fun K4 hK4=>WC.region (WL.z (.slice p t.length cp) 6 (WL.z (vI (t.length:Int)) 7 (WL.z (.slice p2 u.length cp2) 8 ?_))))));refine WL.z (vI (u.length:Int)) 9 ?_;by_cases hlen0:(t.length:Int)≠(u.length:Int)
 ·
  have hlen:¬ t.length=u.length:=(by omega);refine WL.y (.bool true) 10 (x_neq rfl rfl rfl (dT (hlen0))) (WL.k hK4 ?_);refine WC.yes rfl ?_;refine WC.seq fun K5 hK5=>WC.region (WL.z (.bool false) 4 (WL.k hK5 (WC.ret ?_)));refine WQ.thenRet ?_;refine WQ.ret1 4 rfl rfl ?_;exact⟨by rw [decide_eq_false (fun e=>hlen (by subst e;rfl))],HP.below hH1⟩
 ·
  have hlen:t.length=u.length:=(by omega);refine WL.y (.bool false) 10 (x_neq rfl rfl rfl (dF (hlen0))) (WL.k hK4 ?_);refine WC.no rfl ?_;refine WC.skip (WQ.then (hK3 _ _ _ (WC.seq fun K6 hK6=>WC.seq fun K7 hK7=>WC.region (WL.z (.slice p t.length cp) 11 (WL.z (vI (t.length:Int)) 12 (WL.z (vI 0) 13 (WL.k hK7 ?_)))))));refine WC.block ?_;refine WC.loop (fun kk0 ll0 ww0=>∃ (i:Nat),ll0=[(0,.slice p t.length cp),(1,.slice p2 u.length cp2),(12,vI (t.length:Int)),(13,vI (i:Int))]∧kk0=t.length-i∧(i≤t.length)∧(∀ j,j<i→lnT t j=lnT u j∧agT t j=agT u j)∧HP Tr w ww0 []) (t.length) [(0,.slice p t.length cp),(1,.slice p2 u.length cp2),(12,vI (t.length:Int)),(13,vI 0)] ⟨rfl,rfl,rfl,rfl,trivial⟩ ⟨0,rfl,rfl,Nat.zero_le _,fun j hj=>by omega,hH1⟩ ?_;rintro kk l w9 ⟨i,rfl,hkk,hi,hall,hH10⟩ K8 hK8;refine WC.seq fun K11 hK11=>WC.region ?_;by_cases hlt:(i:Int)<(t.length:Int)
  ·
   refine WL.y (.bool true) 14 (x_lss rfl rfl rfl (dT (hlt))) (WL.k hK11 (WC.seq fun K12 hK12=>?_));refine WC.yes rfl ?_;refine WC.skip (WQ.then (hK12 _ _ _ (WC.seq fun K13 hK13=>WC.block (WC.seq fun K14 hK14=>WC.region (WL.z (vI (i:Int)) 15 (WL.z (vI (i:Int)) 5 (WL.k hK14 ?_)))))));refine WC.seq fun K15 hK15=>?_;obtain⟨g,o,rfl,hrow⟩:=hT (by omega);obtain⟨g2,o2,rfl,hrow2⟩:=hU (by omega);refine WC.still (by kernel_rfl) (by kernel_rfl) ?_;have hH16:=HP.drew hH10;refine WS.z (.slice (some ⟨g,o,none⟩) t.length cp) 16 (WS.z (vI (i:Int)) 17 (WS.y (vP g (o+i*2)) 18 (x_ix (i) (o+i*2) Tryz.underlying64 sz67) (WS.y (.agg #[vI (lnT t i),vI (agT t i)]) 19 (x_loadS (cs:=[vI (lnT t i),vI (agT t i)]) rfl rfl Tryz.underlying67 rfl sz67 (HP.oldRange hH16 trivial (hrow i (by omega)))) (WS.z (.slice (some ⟨g2,o2,none⟩) u.length cp2) 20 (WS.z (vI (i:Int)) 21 (WS.y (vP g2 (o2+i*2)) 22 (x_ix (i) (o2+i*2) Tryz.underlying64 sz67) (WS.y (.agg #[vI (lnT u i),vI (agT u i)]) 23 (x_loadS (cs:=[vI (lnT u i),vI (agT u i)]) rfl rfl Tryz.underlying67 rfl sz67 (HP.oldRange hH16 trivial (hrow2 i (by omega)))) ?_)))))));by_cases hq:lnT t i=lnT u i∧agT t i=agT u i
   ·
    refine WS.y (.bool false) 24 (x_neqA rfl rfl rfl (by kernel_rfl) (eqTg _ _ _ _ _) (by rw [decide_eq_true hq];rfl)) (WS.nilQ (WQ.then (hK15 _ _ _ (WC.sb [(0,.slice (some ⟨g,o,none⟩) t.length cp),(1,.slice (some ⟨g2,o2,none⟩) u.length cp2),(5,vI (i:Int)),(12,vI (t.length:Int)),(13,vI (i:Int)),(14,.bool true),(24,.bool false)] ?_))));refine WC.no rfl ?_;refine WC.skip (WQ.inNormal (WQ.then (hK13 _ _ _ (WC.region (WL.y (vI ((i+1:Nat):Int)) 25 (x_ad (((i+1:Nat):Int))) (WL.z (vI ((i+1:Nat):Int)) 13 (WL.nil (WQ.sb [(0,.slice (some ⟨g,o,none⟩) t.length cp),(1,.slice (some ⟨g2,o2,none⟩) u.length cp2),(12,vI (t.length:Int)),(13,vI ((i+1:Nat):Int))] ?_))))))));refine WQ.then (hK8 _ _ _ (by omega) ⟨i+1,rfl,rfl,by omega,fun j hj=>by
          by_cases q9:j=i
          · subst q9;exact hq
          · exact hall j (by omega),hH16⟩)
   ·
    refine WS.y (.bool true) 24 (x_neqA rfl rfl rfl (by kernel_rfl) (eqTg _ _ _ _ _) (by rw [decide_eq_false hq];rfl)) (WS.nilQ (WQ.then (hK15 _ _ _ (WC.sb [(0,.slice (some ⟨g,o,none⟩) t.length cp),(1,.slice (some ⟨g2,o2,none⟩) u.length cp2),(5,vI (i:Int)),(12,vI (t.length:Int)),(13,vI (i:Int)),(14,.bool true),(24,.bool true)] ?_))));refine WC.yes rfl ?_;refine WC.seq fun K17 hK17=>WC.region (WL.z (.bool false) 4 (WL.k hK17 (WC.ret ?_)));refine WQ.inRet ?_;refine WQ.thenRet ?_;refine WQ.thenRet ?_;refine WQ.inRet ?_;refine WQ.thenRet ?_;refine WQ.ret1 4 rfl rfl ?_;exact⟨by rw [decide_eq_false (fun e=>hq (by subst e;exact⟨rfl,rfl⟩))],HP.below hH16⟩
  ·
   refine WL.y (.bool false) 14 (x_lss rfl rfl rfl (dF (hlt))) (WL.k hK11 (WC.seq fun K18 hK18=>?_));refine WC.no rfl ?_;refine WC.exit (WQ.thenExit (WQ.thenExit (WQ.inExit (WQ.then (hK6 _ _ _ (WC.seq fun K19 hK19=>WC.region (WL.z (.bool true) 4 (WL.k hK19 ?_))))))));refine WC.ret ?_;refine WQ.ret1 4 rfl rfl ?_;exact⟨by rw [decide_eq_true (tab_eq (by omega) fun j hj=>hall j (by omega))],HP.below hH10⟩
theorem caught_any (i:Int) (r r2:Value) (w:World) :
    Calls Tryz.prog 35 #[vI i,r,r2] w fun e w'=>e=.returned r∧w=w':=by
  refine calls_of Tryz.func35 rfl (m:=8) rfl [(0,vI i),(1,r),(2,r2)] (Fr_enter [vI i,r,r2] 8 (Nat.le_of_ble_eq_true rfl)) ?_;have hH1:HP Tr w w []:=HP.refl w;refine WC.seq fun K2 hK2=>WC.region (WL.z (.slice none 0 0) 6 (WL.k hK2 (WC.seq fun K3 hK3=>WC.region (WL.z r 7 (WL.z r 6 (WL.nil (WQ.then ?_)))))));refine hK3 _ _ _ (WC.ret ?_);refine WQ.ret1 6 rfl rfl ?_;exact⟨rfl,rfl⟩
end Ca
end Go.Proofs.YtmjnakhpekbenaaGreat
