/- What the proof of CacheMarks stands on, part 5 of 6. -/
import Derived.BigQuiet
import Derived.BigRegion
import Derived.CallsIn
import Derived.ChangeAlike
import Derived.ChangeArms
import Derived.ChangeKeysEq
import Derived.ChangeSlices
import Derived.Deep.AppendLies
import Derived.Deep.CutRange
import Derived.Deep.DeepCutAuto
import Derived.Deep.Heap
import Derived.Deep.LoopGhost
import Derived.Deep.Matrix
import Derived.Deep.MidRow
import Derived.Deep.QuietTactic
import Derived.Deep.Slices
import Derived.Great.BuildSlice
import Derived.Great.Walk
import Derived.Ground.Names2Prog
import Derived.Ground.SlgnProg
import Derived.Ground.SlsfProg
import Derived.Handy
import Derived.KernelRfl
import Derived.Laws.AppendOwn
import Derived.Laws.AppendOwnNone
import Derived.Laws.CopyRow
import Derived.Laws.Externs
import Derived.Laws.MakeOwn
import Derived.Laws.Rows
import Derived.Laws.StructEq
import Derived.Lib.AppendZerosOnto
import Derived.Lib.Overlaps
import Derived.Lib.QuietBelow
import Derived.Lib.SliceRun
import Derived.Maps.Own
import Derived.Maps.OwnOps
import Derived.Maps.OwnSet
import Derived.Maps.Views
import Derived.OpenShut
import Derived.Orders
import Derived.OrdersIn
import Derived.RangeFuncFrom
import Derived.RangeFuncLeaves
import Derived.RangeFuncWrites
import Derived.RegionTactic
import Derived.Shelf.SlSortCmp.HeapSortK
import Derived.Shelf.SlSortCmp.InsertionK
import Derived.Shelf.SlSortCmp.MedianK
import Derived.Shelf.SlSortCmp.NoneTotal
import Derived.Shelf.SlSortCmp.PartialInsertionK
import Derived.Shelf.SlSortCmp.PartitionEqualK
import Derived.Shelf.SlSortCmp.PartitionK
import Derived.Shelf.SlSortCmp.PdqK
import Derived.Shelf.SlSortCmp.PivotK
import Derived.Shelf.SlSortCmp.ReverseRangeK
import Derived.Shelf.SlSortCmp.SiftDownK
import Derived.Shelf.Slices.Cells
import Derived.Shelf.Slices.Clone
import Derived.Shelf.Slices.Delete
import Derived.Shelf.Slices.Empties
import Derived.Shelf.Slices.SearchI
import Derived.Shelf.Slices.Turned
import Derived.Shelf.SlicesE.Clone
import Derived.Shelf.SlicesE.Delete
import Derived.Shelf.SlicesQ.Reverse
import Derived.Shelf.Small.Bits
import Derived.Shelf.Small.Wraps
import Derived.Shelf.Strconv.Itoa0
import Derived.SizedLaws
import Derived.Sort.AssemblyPlain
import Derived.Still
import Derived.StillTail
import Derived.TacticsIn
import Derived.Test.YtmjnakhpekbenaaGreatProg
import Derived.WalkKit
import Derived.WalkLawsBesides
import Derived.Test.YtmjnakhpekbenaaGreatCacheMarksD
set_option linter.unusedVariables false
set_option linter.unusedSimpArgs false
namespace Go.Proofs.YtmjnakhpekbenaaGreat
set_option maxRecDepth 20000
set_option maxHeartbeats 4000000
open Go.RowKit Fw
namespace Ca
def farO (x:Int):Bool:=decide (x=25) || decide (x=26)
def farB (c:Nat→Int) (n:Nat):Bool:=(List.range n).any fun i=>farO (c i)
theorem farB_no {c:Nat→Int} {n:Nat} (h:∀ i,i<n→farO (c i)=false):farB c n=false:=by
  unfold farB;rw [List.any_eq_false];intro i hi;rw [h i (List.mem_range.1 hi)];exact Bool.false_ne_true
theorem farB_yes {c:Nat→Int} {n i:Nat} (hi:i<n) (h:farO (c i)=true):farB c n=true:=by
  unfold farB;rw [List.any_eq_true];exact⟨i,List.mem_range.2 hi,h⟩
def okC (s y l m:Int) (c A B:Nat→Int) (n:Nat):Bool:=vG s y l m && (decide (Ec.chk c A B false n=0) && !farB c n)
theorem okC_iff {s y l m:Int} {c A B:Nat→Int} {n:Nat}:okC s y l m c A B n=true↔vG s y l m=true∧Ec.chk c A B false n=0∧farB c n=false:=by simp [okC]
theorem sz4:(Tryz.prog.info? 4).map (·.size)=some 1:=by kernel_rfl
theorem sz69:(Tryz.prog.info? 69).map (·.size)=some 1:=by kernel_rfl
theorem far1_any (op a b:Int) (w:World) :
  Calls Tryz.prog 57 #[.agg #[vI op,vI a,vI b]] w fun e w'=>e=.returned (.bool (farO op))∧Below w.heap.size w w':=by
 refine calls_of Tryz.func57 rfl (m:=11) rfl [(0,.agg #[vI op,vI a,vI b])] (Fr_enter [.agg #[vI op,vI a,vI b]] 11 (Nat.le_of_ble_eq_true rfl)) ?_;have hH1:HP Tr w w []:=HP.refl w;refine WC.seq fun K2 hK2=>WC.region ?_;refine WL.alloc (c:=#[vI op,vI a,vI b]) (T:=51) hH1 1 rfl (by decide) rfl rfl (fun b1=>vP b1 0) (by kernel_rfl) (fun b1 w3 hw3=>?_);have hH4:HP Tr w w3 [.cel b1 #[vI op,vI a,vI b] 51]:=hw3.2;have nb1:=hw3.1;clear hw3;refine WL.z (.bool false) 2 (WL.k hK2 (WC.seq fun K5 hK5=>WC.region (WL.z (vP b1 0) 3 (WL.y (vI op) 4 (x_load rfl rfl Tryz.underlying3 rfl (HP.cell hH4 0 rfl rfl)) ?_))));by_cases h5:op=25
 ·
  refine WL.y (.bool true) 5 (x_eql rfl rfl rfl (dT (h5))) (WL.z (.bool true) 6 (WL.p 7 (WL.p 8 (WL.p 9 (WL.z (.bool true) 10 (WL.z (.bool true) 2 (WL.k hK5 (WC.sb [(0,.agg #[vI op,vI a,vI b]),(1,vP b1 0),(2,.bool true)] (WC.ret ?_)))))))));refine WQ.ret1 2 rfl rfl ?_;exact⟨by rw [show farO op=true by unfold farO;simp [h5]],HP.below hH4⟩
 ·
  refine WL.y (.bool false) 5 (x_eql rfl rfl rfl (dF (h5))) (WL.z (.bool false) 6 (WL.z (vP b1 0) 7 (WL.y (vI op) 8 (x_load rfl rfl Tryz.underlying3 rfl (HP.cell hH4 0 rfl rfl)) ?_)));by_cases h9:op=26
  ·
   refine WL.y (.bool true) 9 (x_eql rfl rfl rfl (dT (h9))) (WL.z (.bool true) 10 (WL.z (.bool true) 2 (WL.k hK5 (WC.sb [(0,.agg #[vI op,vI a,vI b]),(1,vP b1 0),(2,.bool true)] (WC.ret ?_)))));refine WQ.ret1 2 rfl rfl ?_;exact⟨by rw [show farO op=true by unfold farO;simp [h5,h9]],HP.below hH4⟩
  ·
   refine WL.y (.bool false) 9 (x_eql rfl rfl rfl (dF (h9))) (WL.z (.bool false) 10 (WL.z (.bool false) 2 (WL.k hK5 (WC.sb [(0,.agg #[vI op,vI a,vI b]),(1,vP b1 0),(2,.bool false)] (WC.ret ?_)))));refine WQ.ret1 2 rfl rfl ?_;exact⟨by rw [show farO op=false by unfold farO;simp [h5,h9]],HP.below hH4⟩
theorem farI_any (p:Option Addr) (n cap:Nat) (c A B:Nat→Int) (w:World) (hIn:Ec.InC w p n c A B) (hn:n≤400) :
  Calls Tryz.prog 87 #[.slice p n cap,.func (.func 57) #[] #[]] w fun e w'=>∃ r:Int,e=.returned (.int .i64 r)∧(decide (0≤r)=farB c n)∧Below w.heap.size w w':=by
 refine calls_of Tryz.func87 rfl (m:=19) rfl [(0,.slice p n cap),(1,.func (.func 57) #[] #[])] (Fr_enter [.slice p n cap,.func (.func 57) #[] #[]] 19 (Nat.le_of_ble_eq_true rfl)) ?_;have hH1:HP Tr w w []:=HP.refl w;refine WC.seq fun K2 hK2=>WC.region (WL.z (vI 0) 4 (WL.k hK2 (WC.seq fun K3 hK3=>WC.seq fun K4 hK4=>WC.region (WL.z (.slice p n cap) 6 (WL.z (vI (n:Int)) 7 (WL.z (vI 0) 8 ?_))))));refine WL.k hK4 (WC.block ?_);refine WC.loop (fun kk0 ll0 ww0=>∃ (i:Nat),ll0=[(0,.slice p n cap),(1,.func (.func 57) #[] #[]),(7,vI (n:Int)),(8,vI (i:Int))]∧kk0=n-i∧(i≤n)∧(∀ j,j<i→farO (c j)=false)∧HP Tr w ww0 []) (n) [(0,.slice p n cap),(1,.func (.func 57) #[] #[]),(7,vI (n:Int)),(8,vI 0)] ⟨rfl,rfl,rfl,rfl,trivial⟩ ⟨0,rfl,rfl,Nat.zero_le _,(fun j hj=>by omega),hH1⟩ ?_;rintro kk l w6 ⟨i,rfl,hkk,hi,hall,hH7⟩ K5 hK5;refine WC.seq fun K8 hK8=>WC.region ?_;by_cases hlt:(i:Int)<(n:Int)
 ·
  refine WL.y (.bool true) 9 (x_lss rfl rfl rfl (dT (hlt))) (WL.k hK8 (WC.seq fun K9 hK9=>?_));refine WC.yes rfl ?_;refine WC.skip (WQ.then (hK9 _ _ _ (WC.seq fun K10 hK10=>WC.block (WC.seq fun K11 hK11=>WC.region (WL.z (vI (i:Int)) 10 (WL.z (vI (i:Int)) 5 (WL.k hK11 ?_)))))));refine WC.seq fun K12 hK12=>?_;obtain⟨bb,oo,rfl,hrow⟩:=hIn (by omega);refine WC.region (WL.z (.func (.func 57) #[] #[]) 11 (WL.z (.slice (some ⟨bb,oo,none⟩) n cap) 12 (WL.z (vI (i:Int)) 13 (WL.y (vP bb (oo+i*3)) 14 (x_ix (i) (oo+i*3) Tryz.underlying24 sz51) (WL.y (.agg #[vI (c i),vI (A i),vI (B i)]) 15 (x_loadS (cs:=[vI (c i),vI (A i),vI (B i)]) rfl rfl Tryz.underlying51 rfl sz51 (HP.oldRange hH7 trivial (hrow i (by omega)))) ?_)))));refine WL.c 57 #[.agg #[vI (c i),vI (A i),vI (B i)]] 16 ?_;refine(far1_any _ _ _ _).mono ?_;rintro e w13 ⟨rfl,hb14⟩;refine⟨_,rfl,?_⟩;have hH15:=HP.call hH7 hb14;refine WL.k hK12 (WC.sb [(0,.slice (some ⟨bb,oo,none⟩) n cap),(1,.func (.func 57) #[] #[]),(5,vI (i:Int)),(7,vI (n:Int)),(8,vI (i:Int)),(9,.bool true),(16,.bool (farO (c i)))] ?_);rcases Bool.eq_false_or_eq_true (farO (c i)) with hA | hA
  ·
   refine WC.yes (congrArg (fun b=>some (Value.bool b)) hA) ?_;refine WC.seq fun K16 hK16=>WC.region (WL.z (vI (i:Int)) 17 (WL.z (vI (i:Int)) 4 (WL.k hK16 (WC.ret ?_))));refine WQ.inRet ?_;refine WQ.thenRet ?_;refine WQ.thenRet ?_;refine WQ.inRet ?_;refine WQ.thenRet ?_;refine WQ.ret1 4 rfl rfl ?_;exact⟨(i:Int),rfl,by rw [farB_yes (show i<n by omega) hA];simp,HP.below hH15⟩
  ·
   refine WC.no (congrArg (fun b=>some (Value.bool b)) hA) ?_;refine WC.skip (WQ.inNormal (WQ.then (hK10 _ _ _ (WC.region (WL.y (vI ((i+1:Nat):Int)) 18 (x_ad (((i+1:Nat):Int))) (WL.z (vI ((i+1:Nat):Int)) 8 (WL.nil (WQ.sb [(0,.slice (some ⟨bb,oo,none⟩) n cap),(1,.func (.func 57) #[] #[]),(7,vI (n:Int)),(8,vI ((i+1:Nat):Int))] ?_))))))));refine WQ.then (hK5 _ _ _ (by omega) ⟨i+1,rfl,rfl,by omega,(fun j hj=>by
        by_cases q:j=i
        · subst q;exact hA
        · exact hall j (by omega)),hH15⟩)
 ·
  refine WL.y (.bool false) 9 (x_lss rfl rfl rfl (dF (hlt))) (WL.k hK8 (WC.seq fun K17 hK17=>?_));refine WC.no rfl ?_;refine WC.exit (WQ.thenExit (WQ.thenExit (WQ.inExit (WQ.then (hK3 _ _ _ (WC.seq fun K18 hK18=>WC.region (WL.z (vI (-1)) 4 (WL.k hK18 ?_))))))));refine WC.ret ?_;refine WQ.ret1 4 rfl rfl ?_;exact⟨-1,rfl,by rw [farB_no (fun j hj=>hall j (by omega))];decide,HP.below hH7⟩
theorem farC_any (p:Option Addr) (n cap:Nat) (c A B:Nat→Int) (w:World) (hIn:Ec.InC w p n c A B) (hn:n≤400) :
    Calls Tryz.prog 60 #[.slice p n cap,.func (.func 57) #[] #[]] w fun e w'=>e=.returned (.bool (farB c n))∧Below w.heap.size w w':=by
  refine calls_of Tryz.func60 rfl (m:=9) rfl [(0,.slice p n cap),(1,.func (.func 57) #[] #[])] (Fr_enter [.slice p n cap,.func (.func 57) #[] #[]] 9 (Nat.le_of_ble_eq_true rfl)) ?_;have hH1:HP Tr w w []:=HP.refl w;refine WC.seq fun K2 hK2=>WC.region (WL.z (.bool false) 4 (WL.k hK2 (WC.seq fun K3 hK3=>WC.region (WL.z (.slice p n cap) 5 (WL.z (.func (.func 57) #[] #[]) 6 ?_)))));refine WL.c 87 #[.slice p n cap,.func (.func 57) #[] #[]] 7 ?_;refine(farI_any p n cap c A B _ (hIn.below (HP.below hH1)) hn).mono ?_;rintro e w4 ⟨r,rfl,hr,hb5⟩;refine⟨_,rfl,?_⟩;have hH6:=HP.call hH1 hb5;refine WL.y (.bool (farB c n)) 8 (x_geq rfl rfl rfl hr) (WL.z (.bool (farB c n)) 4 (WL.k hK3 (WC.ret ?_)));refine WQ.ret1 4 rfl rfl ?_;exact⟨rfl,HP.below hH6⟩
theorem Valid_at {s y l m:Int} {r:Bool} (h:vG s y l m=r) (w:World):Calls Tryz.prog 58 #[.agg #[vI s,vI y,vI l,vI m]] w fun e w'=>e=.returned (.bool r)∧Below w.heap.size w w':=h ▸ Valid_any s y l m w
theorem farC_at {c A B:Nat→Int} {n:Nat} {r:Bool} (h:farB c n=r) (p:Option Addr) (cap:Nat) (w:World) (hIn:Ec.InC w p n c A B) (hn:n≤400):Calls Tryz.prog 60 #[.slice p n cap,.func (.func 57) #[] #[]] w fun e w'=>e=.returned (.bool r)∧Below w.heap.size w w':=h ▸ farC_any p n cap c A B w hIn hn
theorem checked_any (s y l m:Int) (p:Option Addr) (n cap:Nat) (c A B:Nat→Int) (w:World) (hIn:Ec.InC w p n c A B) (hn:n≤400) :
  Calls Tryz.prog 32 #[.agg #[vI s,vI y,vI l,vI m],.slice p n cap] w fun e w'=>e=.returned (.bool (okC s y l m c A B n))∧Below w.heap.size w w':=by
 refine calls_of Tryz.func32 rfl (m:=19) rfl [(0,.agg #[vI s,vI y,vI l,vI m]),(1,.slice p n cap)] (Fr_enter [.agg #[vI s,vI y,vI l,vI m],.slice p n cap] 19 (Nat.le_of_ble_eq_true rfl)) ?_;have hH1:HP Tr w w []:=HP.refl w;refine WC.seq fun K2 hK2=>WC.region ?_;refine WL.alloc (c:=#[vI s,vI y,vI l,vI m]) (T:=23) hH1 2 rfl (by decide) rfl rfl (fun b2=>vP b2 0) (by kernel_rfl) (fun b2 w3 hw3=>?_);have hH4:HP Tr w w3 [.cel b2 #[vI s,vI y,vI l,vI m] 23]:=hw3.2;have nb2:=hw3.1;clear hw3;refine WL.z (.bool false) 4 (WL.k hK2 (WC.seq fun K5 hK5=>WC.region (WL.z (.func (.func 57) #[] #[]) 5 (WL.k hK5 (WC.seq fun K6 hK6=>WC.region ?_)))));refine WL.y (.agg #[vI s,vI y,vI l,vI m]) 6 (x_loadS (cs:=[vI s,vI y,vI l,vI m]) rfl rfl Tryz.underlying23 rfl sz23 (HP.range hH4 0 rfl rfl)) ?_;rcases Bool.eq_false_or_eq_true (vG s y l m) with hg | hg
 ·
  refine WL.c 58 #[.agg #[vI s,vI y,vI l,vI m]] 7 ?_;refine(Valid_at hg _).mono ?_;rintro e w7 ⟨rfl,hb8⟩;refine⟨_,rfl,?_⟩;have hH9:=HP.call hH4 hb8;refine WL.z (.bool true) 8 (WL.z (.slice p n cap) 9 ?_);refine WL.c 59 #[.slice p n cap,.bool false] 10 ?_;refine(Ec.Check_any p n cap c A B false _ (hIn.below (HP.below hH9)) hn).mono ?_;rintro e w10 ⟨rfl,hb11⟩;refine⟨_,rfl,?_⟩;have hH12:=HP.call hH9 hb11;by_cases hck:(Ec.chk c A B false n)=0
  ·
   refine WL.y (.bool true) 11 (x_eql rfl rfl rfl (dT (hck))) (WL.z (.bool true) 12 (WL.z (.bool true) 13 (WL.z (.slice p n cap) 14 (WL.z (.func (.func 57) #[] #[]) 15 ?_))));rcases Bool.eq_false_or_eq_true (farB c n) with hf | hf
   ·
    refine WL.c 60 #[.slice p n cap,.func (.func 57) #[] #[]] 16 ?_;refine(farC_at hf p cap _ (hIn.below (HP.below hH12)) hn).mono ?_;rintro e w13 ⟨rfl,hb14⟩;refine⟨_,rfl,?_⟩;have hH15:=HP.call hH12 hb14;refine WL.z (.bool false) 17 (WL.z (.bool false) 18 (WL.z (.bool false) 4 (WL.k hK6 (WC.sb [(0,.agg #[vI s,vI y,vI l,vI m]),(1,.slice p n cap),(2,vP b2 0),(4,.bool false),(5,.func (.func 57) #[] #[])] (WC.ret ?_)))));refine WQ.ret1 4 rfl rfl ?_;exact⟨by rw [show okC s y l m c A B n=false by unfold okC;simp [hg,hck,hf]],HP.below hH15⟩
   ·
    refine WL.c 60 #[.slice p n cap,.func (.func 57) #[] #[]] 16 ?_;refine(farC_at hf p cap _ (hIn.below (HP.below hH12)) hn).mono ?_;rintro e w16 ⟨rfl,hb17⟩;refine⟨_,rfl,?_⟩;have hH18:=HP.call hH12 hb17;refine WL.z (.bool true) 17 (WL.z (.bool true) 18 (WL.z (.bool true) 4 (WL.k hK6 (WC.sb [(0,.agg #[vI s,vI y,vI l,vI m]),(1,.slice p n cap),(2,vP b2 0),(4,.bool true),(5,.func (.func 57) #[] #[])] (WC.ret ?_)))));refine WQ.ret1 4 rfl rfl ?_;exact⟨by rw [show okC s y l m c A B n=true by unfold okC;simp [hg,hck,hf]],HP.below hH18⟩
  ·
   refine WL.y (.bool false) 11 (x_eql rfl rfl rfl (dF (hck))) (WL.z (.bool false) 12 (WL.z (.bool false) 13 (WL.p 14 (WL.p 15 (WL.p 16 (WL.p 17 (WL.z (.bool false) 18 (WL.z (.bool false) 4 (WL.k hK6 ?_)))))))));refine WC.sb [(0,.agg #[vI s,vI y,vI l,vI m]),(1,.slice p n cap),(2,vP b2 0),(4,.bool false),(5,.func (.func 57) #[] #[])] (WC.ret ?_);refine WQ.ret1 4 rfl rfl ?_;exact⟨by rw [show okC s y l m c A B n=false by unfold okC;simp [hg,hck]],HP.below hH12⟩
 ·
  refine WL.c 58 #[.agg #[vI s,vI y,vI l,vI m]] 7 ?_;refine(Valid_at hg _).mono ?_;rintro e w19 ⟨rfl,hb20⟩;refine⟨_,rfl,?_⟩;have hH21:=HP.call hH4 hb20;refine WL.z (.bool false) 8 (WL.p 9 (WL.p 10 (WL.p 11 (WL.z (.bool false) 12 (WL.z (.bool false) 13 (WL.p 14 (WL.p 15 (WL.p 16 (WL.p 17 (WL.z (.bool false) 18 (WL.z (.bool false) 4 ?_)))))))))));refine WL.k hK6 (WC.sb [(0,.agg #[vI s,vI y,vI l,vI m]),(1,.slice p n cap),(2,vP b2 0),(4,.bool false),(5,.func (.func 57) #[] #[])] (WC.ret ?_));refine WQ.ret1 4 rfl rfl ?_;exact⟨by rw [show okC s y l m c A B n=false by unfold okC;simp [hg]],HP.below hH21⟩
theorem checked_at {s y l m:Int} {c A B:Nat→Int} {n:Nat} {r:Bool} (h:okC s y l m c A B n=r) (p:Option Addr) (cap:Nat) (w:World) (hIn:Ec.InC w p n c A B) (hn:n≤400):Calls Tryz.prog 32 #[.agg #[vI s,vI y,vI l,vI m],.slice p n cap] w fun e w'=>e=.returned (.bool r)∧Below w.heap.size w w':=h ▸ checked_any s y l m p n cap c A B w hIn hn
theorem ne_of {S:Nat→Prop} {w0 w:World} {H:List Ent} (h:HP S w0 w H) (i j:Nat) {e e':Ent} {b b':Nat} (hij:i<j) (h1:H[i]?=some e) (h2:H[j]?=some e') (h3:e.blk=some b) (h4:e'.blk=some b'):b≠b':=fun q=>by
  obtain⟨l1,g1⟩:=List.getElem?_eq_some_iff.1 h1;obtain⟨l2,g2⟩:=List.getElem?_eq_some_iff.1 h2;have:=List.pairwise_iff_getElem.1 h.apart i j l1 l2 hij;rw [g1,g2] at this;exact this b h3 (q ▸ h4)
theorem out1 {b g:Nat} {c:Array Value} {T:TypeId} (h:b≠g):Out [.cel g c T] b:=fun e he hb=>by
  obtain rfl:=List.mem_singleton.1 he;exact h (Option.some.inj hb).symm
def upB (f:Nat→Bool) (i:Nat) (v:Bool):Nat→Bool:=fun j=>if j=i then v else f j
def brow (n:Nat) (f:Nat→Bool):Array Value:=(Array.range n).map fun i=>.bool (f i)
theorem size_brow (n:Nat) (f:Nat→Bool):(brow n f).size=n:=by simp [brow]
theorem brow_get {n j:Nat} {f:Nat→Bool} {v:Bool} (hj:j<n) (hv:f j=v):(brow n f)[j]?=some (.bool v):=by simp [brow,hj,hv]
theorem brow_set (n i:Nat) (f:Nat→Bool) (v:Bool):(brow n f).setIfInBounds i (.bool v)=brow n (upB f i v):=by
  apply Array.ext
  · simp [brow]
  · intro j h1 h2
    rw [Array.getElem_setIfInBounds (by simpa using h1)];by_cases e:i=j
    · subst e;simp [brow,upB]
    · rw [if_neg e];simp [brow,upB,Ne.symm e]
theorem brow_congr {n:Nat} {f g:Nat→Bool} (h:∀ i,i<n→f i=g i):brow n f=brow n g:=by
  unfold brow;apply Array.ext
  · simp
  · intro i h1 h2
    have hi:i<n:=(by simpa using h1);simp [h i hi]
theorem infoB:∃ i,Tryz.prog.info? 4=some i∧i.zero=some (.bool false)∧i.size=1∧i.bytes=1:=by
  obtain⟨i,hi,h⟩:=Option.map_eq_some_iff.1 (show (Tryz.prog.info? 4).map (fun i=>(i.zero,i.size,i.bytes))=some (some (.bool false),1,1) by kernel_rfl);simp only [Prod.mk.injEq] at h;exact⟨i,hi,h.1,h.2.1,h.2.2⟩
theorem made_brow (n:Nat):madeCells (Value.bool false).cells (n*1)=brow n (fun _=>false):=by
  apply Array.ext
  · simp [madeCells,brow]
  · intro i h1 h2
    simp [madeCells,brow,Value.cells,Nat.mod_one]
theorem makeB (n:Nat) (hn:n≤1000) (W:World):(Instr.makeSlice 26 (.int .i64 (n:Int)) (.int .i64 (n:Int))).run Tryz.prog W=.ok (.slice (some ⟨W.heap.size,0,none⟩) n n) (W.alloc (.cells (brow n (fun _=>false)) 4)):=by
  obtain⟨i0,hi0,hz0,hz1,hz2⟩:=infoB;have hr:=run_make (P:=Tryz.prog) W 26 4 i0 _ Tryz.underlying26 hi0 hz0 .i64 .i64 (n:Int) (n:Int) (by omega) (by omega) (by rw [hz2];omega) (by omega);rw [hz1,made_brow] at hr;simpa using hr
theorem out_bool {w:World} {g n:Nat} {f:Nat→Bool} (hB:OwnB w [.cel g (brow n f) 4]) {b o:Nat} {x:Int} (hc:w.cell? ⟨b,o,none⟩=some (vI x)):Out [.cel g (brow n f) 4] b:=out1 fun e=>by
  subst e;have h2:=hB.1 (.cel b (brow n f) 4) (by simp);rw [cell_of_row w b o _ 4 (0,0) h2] at hc;have hi:o<n:=by
    have:=(Array.getElem?_eq_some_iff.1 hc).1;simpa [brow] using this
  rw [brow_get hi rfl] at hc;cases hc
def mkF (ah:Nat→List T2) (l:Int) (i:Nat):Nat→Bool:=fun j=>decide (j<i) && (ageT (ah j) ((j:Int)/l)).isSome
theorem mkF_0 (ah:Nat→List T2) (l:Int) (j:Nat):mkF ah l 0 j=false:=by simp [mkF]
theorem mkF_step (ah:Nat→List T2) (l:Int) (i j:Nat):upB (mkF ah l i) i (ageT (ah i) ((i:Int)/l)).isSome j=mkF ah l (i+1) j:=by
  unfold upB mkF;by_cases e:j=i
  · subst e;rw [if_pos rfl,decide_eq_true (Nat.lt_succ_self j),Bool.true_and]
  · rw [if_neg e]
    by_cases q:j<i
    · rw [decide_eq_true q,decide_eq_true (show j<i+1 by omega)]
    · rw [decide_eq_false q,decide_eq_false (show ¬ j<i+1 by omega)]
theorem find2_any (p:Option Addr) (t:List T2) (cp:Nat) (w:World) (hT:InT w p t) (x:Int) (hn:t.length≤281474976710656) (hs:sT t) :
    Calls Tryz.prog 37 #[.slice p t.length cp,vI x] w fun e w'=>∃ k:Nat,e=.returned (.tuple #[vI (k:Int),.bool (ageT t x).isSome])∧Below w.heap.size w w' :=
  (find_any p t cp w hT x hn).mono fun e w' ⟨k,fb,h1,h2,h3,h4,h5,h6⟩=>⟨k,by
    rw [h1,h5];by_cases q:k<t.length∧lnT t k=x
    · rw [decide_eq_true q,← q.2,age_at hs q.1];rfl
    · rw [decide_eq_false q,find_none hs h2 h3 h4 q];rfl,h6⟩
theorem nil_ok {s y l m:Int} {w:World} (hg:vG s y l m=true):TbOk s y l m w ⟨none,[],0⟩:=⟨fun h=>absurd h (by simp),VT.nil hg⟩
abbrev pE0 (pb:Nat) (cq:Option Addr) (n cap b6 b4 fj:Nat):Ent:=.cel pb #[.slice cq n cap,.func (.func 33) #[] #[vP b6 0,vP b4 0],.func (.func fj) #[] #[],.func (.func 34) #[] #[],.func (.func 35) #[] #[],.slice none 0 0] 71
theorem out_int0 {w:World} {pb n cap b6 b4 fj:Nat} {cq:Option Addr} (hB:OwnB w [pE0 pb cq n cap b6 b4 fj]) {b o:Nat} {x:Int} (hc:w.cell? ⟨b,o,none⟩=some (vI x)):Out [pE0 pb cq n cap b6 b4 fj] b:=fun e he hb=>by
  obtain rfl:=List.mem_singleton.1 he;cases hb;have h2:=hB.1 (pE0 pb cq n cap b6 b4 fj) (by simp);rw [cell_of_row w pb o _ 71 (0,0) h2] at hc
  match o,hc with
  | 0,hc=>simp at hc
  | 1,hc=>simp at hc
  | 2,hc=>simp at hc
  | 3,hc=>simp at hc
  | 4,hc=>simp at hc
  | 5,hc=>simp at hc
  | o+6,hc=>simp at hc
def nilT:Nat→TbI:=fun _=>⟨none,[],0⟩
theorem info88:∃ i,Tryz.prog.info? 64=some i∧i.zero=some (.slice none 0 0)∧i.size=1∧i.bytes=24:=by
  obtain⟨i,hi,h⟩:=Option.map_eq_some_iff.1 (show (Tryz.prog.info? 64).map (fun i=>(i.zero,i.size,i.bytes))=some (some (.slice none 0 0),1,24) by kernel_rfl);simp only [Prod.mk.injEq] at h;exact⟨i,hi,h.1,h.2.1,h.2.2⟩
theorem made_aR (n:Nat):madeCells (Value.slice none 0 0).cells (n*1)=aR n nilT:=by
  apply Array.ext
  · simp [madeCells,aR]
  · intro i h1 h2
    simp [madeCells,aR,nilT,Value.cells,Nat.mod_one]
theorem makeT (n:Nat) (hn:n≤1000) (W:World):(Instr.makeSlice 69 (.int .i64 (n:Int)) (.int .i64 (n:Int))).run Tryz.prog W=.ok (.slice (some ⟨W.heap.size,0,none⟩) n n) (W.alloc (.cells (aR n nilT) 64)):=by
  obtain⟨i0,hi0,hz0,hz1,hz2⟩:=info88;have hr:=run_make (P:=Tryz.prog) W 69 64 i0 _ Tryz.underlying69 hi0 hz0 .i64 .i64 (n:Int) (n:Int) (by omega) (by omega) (by rw [hz2];omega) (by omega);rw [hz1,made_aR] at hr;simpa using hr
theorem solveK_any (K:Bool) (s y l m:Int) (pb:Nat) (cq:Option Addr) (n cap b6 b4:Nat) (c A B:Nat→Int) (hg0:vG s y l m=true) (hc:Ec.chk c A B false n=0) (R:Fl.Tr) (hIs0:Fl.Is (cdOf c n) R 0 n) (hbr0:∀ ga,BrAll (BrPK K s y l m pb cq n cap b6 b4 ga c A B) (BrAK K s y l m pb cq n cap b6 b4 ga c A B) R) (w:World) (hB:OwnB w [pE0 pb cq n cap b6 b4 (fjK K)]) (hcode:Ec.InC w cq n c A B) (geo:w.rangeAt b4 0 [vI s,vI y,vI l,vI m]) (how:w.cell? ⟨b6,0,none⟩=some (.func (.func (fhK K)) #[] #[])) (nb:b6≠pb) :
  Calls Tryz.prog 36 #[vP pb 0,.slice none 0 0] w fun e w'=>∃ ga T' r',e=.returned (.tuple #[vS ga n n,tbV r'])∧HP (Out [pE0 pb cq n cap b6 b4 (fjK K)]) w w' [pE pb cq n cap b6 b4 (fjK K) ga,aE ga n T']∧(∀ i,TbOk s y l m w' (T' i))∧(r'.t,tabs T')=Fl.sol (opsK K s y l) (cdOf c n) R [] (fun _=>[]):=by
 have hn9:=(Ec.chk_ok hc).1;refine calls_of Tryz.func36 rfl (m:=29) rfl [(0,vP pb 0),(1,.slice none 0 0)] (Fr_enter [vP pb 0,.slice none 0 0] 29 (Nat.le_of_ble_eq_true rfl)) ?_;refine WC.seq fun K1 hK1=>WC.region (WL.z (.slice none 0 0) 4 (WL.z (.slice none 0 0) 5 (WL.k hK1 (WC.seq fun K2 hK2=>WC.region (WL.z (vP pb 0) 7 (WL.z (vP pb 0) 8 (WL.z (vP pb 0) 9 ?_)))))));refine WL.z (vP pb 0) 10 (WL.y (.slice cq n cap) 11 (x_load rfl rfl Tryz.underlying24 rfl (HP.cell (HP.startB hB) 0 rfl rfl)) (WL.z (vI (n:Int)) 12 ?_));refine WL.alloc (c:=aR n nilT) (T:=64) (HP.startB hB) 13 rfl (by decide) rfl rfl (fun ga=>vS ga n n) (x_makeR rfl rfl rfl (makeT n (by omega) _)) (fun ga w9 hw9=>?_);have hga:=hw9.1;have hH3:HP (Out [pE0 pb cq n cap b6 b4 (fjK K)]) w w9 [.cel pb #[.slice cq n cap,.func (.func 33) #[] #[vP b6 0,vP b4 0],.func (.func (fjK K)) #[] #[],.func (.func 34) #[] #[],.func (.func 35) #[] #[],.slice none 0 0] 71,.cel ga (aR n nilT) 64]:=hw9.2;refine WL.z (vP pb 0) 14 (WL.z (vP pb 5) 15 ?_);refine WL.store (H2:=[.cel pb #[.slice cq n cap,.func (.func 33) #[] #[vP b6 0,vP b4 0],.func (.func (fjK K)) #[] #[],.func (.func 34) #[] #[],.func (.func 35) #[] #[],vS ga n n] 71,.cel ga (aR n nilT) 64]) 0 hH3 rfl rfl rfl rfl rfl rfl sz69 rfl (Nat.le_of_ble_eq_true rfl) rfl rfl ?_;intro w4 hH5;refine WL.k hK2 (WC.sb [(0,vP pb 0),(1,.slice none 0 0),(4,.slice none 0 0),(5,.slice none 0 0)] (WC.seq fun K6 hK6=>WC.region (WL.z (vP pb 0) 16 (WL.z (vP pb 0) 17 (WL.z (vP pb 0) 18 (WL.z (vP pb 0) 19 (WL.y (.slice cq n cap) 20 (x_load rfl rfl Tryz.underlying24 rfl (HP.cell hH5 0 rfl rfl)) (WL.z (vI (n:Int)) 21 ?_))))))));refine WL.z (.slice none 0 0) 22 ?_;have hI9:Ec.InC _ cq n c A B:=fun h0=>by
   obtain⟨g9,o9,hq9,hr9⟩:=hcode h0;exact⟨g9,o9,hq9,fun i9 h9=>HP.oldRange hH5 (out_int0 hB (hr9 i9 h9 0 _ rfl)) (hr9 i9 h9)⟩
 have hb6l:=World.block_lt_of_cell? w _ how;have hE9:Env s y l m pb cq n cap b6 b4 (fhK K) (fjK K) ga c A B _ nilT:=⟨HP.ownF (A:=[pE pb cq n cap b6 b4 (fjK K) ga,aE ga n nilT]) (B:=[]) hH5,hI9,HP.oldRange hH5 (out_int0 hB (geo 0 _ rfl)) geo,HP.old hH5 (fun e he hb=>by obtain rfl:=List.mem_singleton.1 he;cases hb;exact nb rfl) how,nb,by simp only [] at hb6l;omega⟩;refine WL.c 61 #[vP pb 0,vI 0,vI (n:Int),.slice none 0 0] 23 ?_;refine(listK_any K s y l m pb cq n cap b6 b4 ga c A B hg0 hc R 0 n hIs0 (Nat.le_refl _) (hbr0 ga) _ nilT ⟨none,[],0⟩ hE9 (nil_ok hg0) (fun _=>nil_ok hg0)).mono ?_;rintro e w9 ⟨r9,T9,rfl,hb9,hr9,hT9,hX9⟩;refine⟨_,rfl,?_⟩;have hH7:HP (Out [pE0 pb cq n cap b6 b4 (fjK K)]) w _ [.cel pb #[.slice cq n cap,.func (.func 33) #[] #[vP b6 0,vP b4 0],.func (.func (fjK K)) #[] #[],.func (.func 34) #[] #[],.func (.func 35) #[] #[],vS ga n n] 71,.cel ga (aR n T9) 64]:=HP.exch (A:=[]) hH5 hb9;refine WL.z (.slice r9.q r9.t.length r9.c) 6 (WL.k hK6 (WC.sb [(0,vP pb 0),(1,.slice none 0 0),(4,.slice none 0 0),(5,.slice none 0 0),(6,.slice r9.q r9.t.length r9.c)] (WC.seq fun K8 hK8=>WC.region (WL.z (vP pb 0) 24 (WL.z (vP pb 0) 25 (WL.z (vP pb 5) 26 (WL.y (vS ga n n) 27 (x_load rfl rfl Tryz.underlying69 rfl (HP.cell hH7 0 rfl rfl)) (WL.z (.slice r9.q r9.t.length r9.c) 28 ?_))))))));refine WL.z (vS ga n n) 4 (WL.z (.slice r9.q r9.t.length r9.c) 5 (WL.k hK8 (WC.sb [(0,vP pb 0),(1,.slice none 0 0),(4,vS ga n n),(5,.slice r9.q r9.t.length r9.c),(6,.slice r9.q r9.t.length r9.c)] (WC.ret ?_))));refine WQ.ret2 4 5 rfl rfl rfl ?_;exact⟨ga,T9,r9,rfl,hH7,hT9,hX9⟩
def mkK (K:Bool) (s y l:Int) (c:Nat→Int) (n:Nat) (R:Fl.Tr) (i:Nat):Bool:=(ageT ((Fl.sol (opsK K s y l) (cdOf c n) R [] (fun _=>[])).2 i) ((i:Int)/l)).isSome
def MarkRK (K:Bool) (s y l m:Int) (c A B:Nat→Int) (n:Nat) (R:Fl.Tr) (w:World) (e:Ending) (w':World):Prop :=
  (okC s y l m c A B n=false∧e=.returned (.tuple #[.slice none 0 0,vI 1])∧Below w.heap.size w w') ∨
  (okC s y l m c A B n=true∧∃ go,e=.returned (.tuple #[vS go n n,vI 0])∧HP Tr w w' [.cel go (brow n (mkK K s y l c n R)) 4])
theorem mkF_endK {K:Bool} {s y l:Int} {c:Nat→Int} {n:Nat} {R:Fl.Tr} {T:Nat→TbI} (h:tabs T=(Fl.sol (opsK K s y l) (cdOf c n) R [] (fun _=>[])).2) {i:Nat} (hi:n≤i):∀ j,j<n→mkF (tabs T) l i j=mkK K s y l c n R j:=fun j hj=>by
  unfold mkF mkK;rw [decide_eq_true (show j<i by omega),Bool.true_and,h]
theorem marksK_any (K:Bool) (s y l m:Int) (p:Option Addr) (n cap:Nat) (c A B:Nat→Int) (R:Fl.Tr) (hR:okC s y l m c A B n=true→Fl.Is (cdOf c n) R 0 n∧∀ (pb:Nat) (cq:Option Addr) (cap b6 b4 ga:Nat),BrAll (BrPK K s y l m pb cq n cap b6 b4 ga c A B) (BrAK K s y l m pb cq n cap b6 b4 ga c A B) R) (w:World) (hIn:Ec.InC w p n c A B) (hn:n≤400) :
  Calls Tryz.prog 18 #[.agg #[vI s,vI y,vI l,vI m],.slice p n cap,.func (.func (fhK K)) #[] #[],.func (.func (fjK K)) #[] #[]] w (MarkRK K s y l m c A B n R w):=by
 refine calls_of Tryz.func18 rfl (m:=54) rfl [(0,.agg #[vI s,vI y,vI l,vI m]),(1,.slice p n cap),(2,.func (.func (fhK K)) #[] #[]),(3,.func (.func (fjK K)) #[] #[])] (Fr_enter [.agg #[vI s,vI y,vI l,vI m],.slice p n cap,.func (.func (fhK K)) #[] #[],.func (.func (fjK K)) #[] #[]] 54 (Nat.le_of_ble_eq_true rfl)) ?_;have hH1:HP Tr w w []:=HP.refl w;refine WC.seq fun K2 hK2=>WC.region ?_;refine WL.alloc (c:=#[vI s,vI y,vI l,vI m]) (T:=23) hH1 4 rfl (by decide) rfl rfl (fun b4=>vP b4 0) (by kernel_rfl) (fun b4 w3 hw3=>?_);have hH4:HP Tr w w3 [.cel b4 #[vI s,vI y,vI l,vI m] 23]:=hw3.2;have nb4:=hw3.1;clear hw3;refine WL.alloc (c:=#[.func (.func (fhK K)) #[] #[]]) (T:=44) hH4 6 rfl (by decide) rfl rfl (fun b6=>vP b6 0) (by kernel_rfl) (fun b6 w5 hw5=>?_);have hH6:HP Tr w w5 [.cel b4 #[vI s,vI y,vI l,vI m] 23,.cel b6 #[.func (.func (fhK K)) #[] #[]] 44]:=hw5.2;have nb6:=hw5.1;clear hw5;refine WL.z (.slice none 0 0) 8 (WL.z (vI 0) 9 (WL.k hK2 (WC.seq fun K7 hK7=>WC.seq fun K8 hK8=>WC.region (WL.y (.agg #[vI s,vI y,vI l,vI m]) 15 (x_loadS (cs:=[vI s,vI y,vI l,vI m]) rfl rfl Tryz.underlying23 rfl sz23 (HP.range hH6 0 rfl rfl)) (WL.z (.slice p n cap) 16 ?_)))));rcases Bool.eq_false_or_eq_true (okC s y l m c A B n) with hok | hok
 ·
  obtain⟨hg0,hc0,hf0⟩:=okC_iff.1 hok;obtain⟨hIs0,hbr0⟩:=hR hok;have hg:=vG_iff.1 hg0;have hn9:=(Ec.chk_ok hc0).1;refine WL.c 32 #[.agg #[vI s,vI y,vI l,vI m],.slice p n cap] 17 ?_;refine(checked_at hok p cap _ (hIn.below (HP.below hH6)) hn).mono ?_;rintro e w9 ⟨rfl,hb10⟩;refine⟨_,rfl,?_⟩;have hH11:=HP.call hH6 hb10;refine WL.z (.bool false) 18 (WL.k hK8 ?_);refine WC.no rfl ?_;refine WC.skip (WQ.then (hK7 _ _ _ (WC.seq fun K12 hK12=>WC.region (WL.z (.slice p n cap) 19 (WL.z (.func (.func 33) #[] #[vP b6 0,vP b4 0]) 20 (WL.z (.func (.func (fjK K)) #[] #[]) 21 (WL.z (.agg #[.slice p n cap,.func (.func 33) #[] #[vP b6 0,vP b4 0],.func (.func (fjK K)) #[] #[],.func (.func 34) #[] #[],.func (.func 35) #[] #[],.slice none 0 0]) 22 ?_)))))));refine WL.alloc (c:=#[.slice p n cap,.func (.func 33) #[] #[vP b6 0,vP b4 0],.func (.func (fjK K)) #[] #[],.func (.func 34) #[] #[],.func (.func 35) #[] #[],.slice none 0 0]) (T:=71) hH11 23 rfl (by decide) rfl rfl (fun b23=>vP b23 0) (by kernel_rfl) (fun b23 w13 hw13=>?_);have hH14:HP Tr w w13 [.cel b4 #[vI s,vI y,vI l,vI m] 23,.cel b6 #[.func (.func (fhK K)) #[] #[]] 44,.cel b23 #[.slice p n cap,.func (.func 33) #[] #[vP b6 0,vP b4 0],.func (.func (fjK K)) #[] #[],.func (.func 34) #[] #[],.func (.func 35) #[] #[],.slice none 0 0] 71]:=hw13.2;have nb23:=hw13.1;clear hw13;refine WL.z (vP b23 0) 10 (WL.k hK12 (WC.sb [(0,.agg #[vI s,vI y,vI l,vI m]),(1,.slice p n cap),(2,.func (.func (fhK K)) #[] #[]),(3,.func (.func (fjK K)) #[] #[]),(4,vP b4 0),(6,vP b6 0),(8,.slice none 0 0),(9,vI 0),(10,vP b23 0),(18,.bool false)] (WC.seq fun K15 hK15=>WC.region (WL.z (vP b23 0) 25 ?_))));refine WL.c 36 #[vP b23 0,.slice none 0 0] 26 ?_;refine(solveK_any K s y l m b23 p n cap b6 b4 c A B hg0 hc0 R hIs0 (hbr0 b23 p cap b6 b4) _ (HP.ownB (A:=[Go.Proofs.YtmjnakhpekbenaaGreat.Fw.Ent.cel b4 #[vI s,vI y,vI l,vI m] 23,Go.Proofs.YtmjnakhpekbenaaGreat.Fw.Ent.cel b6 #[.func (.func (fhK K)) #[] #[]] 44]) hH14) (hIn.below (HP.below hH14)) (HP.range hH14 0 rfl rfl) (HP.cell hH14 1 rfl rfl) (ne_of hH14 1 2 (by decide) rfl rfl rfl rfl)).mono ?_
  rintro e w9 ⟨ga,T9,r9,rfl,hb9,hT9,hX9⟩;refine⟨_,rfl,?_⟩;have hsT:tabs T9=(Fl.sol (opsK K s y l) (cdOf c n) R [] (fun _=>[])).2:=congrArg Prod.snd hX9;have hH16:HP Tr w _ [.cel b4 #[vI s,vI y,vI l,vI m] 23,.cel b6 #[.func (.func (fhK K)) #[] #[]] 44,.cel b23 #[.slice p n cap,.func (.func 33) #[] #[vP b6 0,vP b4 0],.func (.func (fjK K)) #[] #[],.func (.func 34) #[] #[],.func (.func 35) #[] #[],vS ga n n] 71,.cel ga (aR n T9) 64]:=HP.exch (A:=[Go.Proofs.YtmjnakhpekbenaaGreat.Fw.Ent.cel b4 #[vI s,vI y,vI l,vI m] 23,Go.Proofs.YtmjnakhpekbenaaGreat.Fw.Ent.cel b6 #[.func (.func (fhK K)) #[] #[]] 44]) hH14 hb9;refine WL.z (.tuple #[vS ga n n,.slice r9.q r9.t.length r9.c]) 24 (WL.z (vS ga n n) 27 (WL.z (.slice r9.q r9.t.length r9.c) 28 (WL.z (vS ga n n) 11 (WL.z (.slice r9.q r9.t.length r9.c) 12 (WL.k hK15 (WC.sb [(0,.agg #[vI s,vI y,vI l,vI m]),(1,.slice p n cap),(2,.func (.func (fhK K)) #[] #[]),(3,.func (.func (fjK K)) #[] #[]),(4,vP b4 0),(6,vP b6 0),(8,.slice none 0 0),(9,vI 0),(10,vP b23 0),(11,vS ga n n),(18,.bool false)] (WC.seq fun K17 hK17=>?_)))))));have hInvS:=hH16;refine WC.region (WL.z (.slice p n cap) 29 (WL.z (vI (n:Int)) 30 ?_));have hT8:=hT9;refine WL.alloc (c:=brow n (fun _=>false)) (T:=4) (HP.refl (S:=Tr) w9) 31 rfl (by decide) rfl rfl (fun go=>vS go n n) (x_makeR rfl rfl rfl (makeB n (by omega) _)) (fun go w10 hw9=>?_);have hH18:HP Tr w9 w10 [.cel go (brow n (fun _=>false)) 4]:=hw9.2;refine WL.z (vS go n n) 13 (WL.k hK17 (WC.seq fun K19 hK19=>WC.seq fun K20 hK20=>?_));have hal9:=HP.below hH18;have hH21:HP Tr w _ [.cel b4 #[vI s,vI y,vI l,vI m] 23,.cel b6 #[.func (.func (fhK K)) #[] #[]] 44,.cel b23 #[.slice p n cap,.func (.func 33) #[] #[vP b6 0,vP b4 0],.func (.func (fjK K)) #[] #[],.func (.func 34) #[] #[],.func (.func 35) #[] #[],vS ga n n] 71,.cel ga (aR n T9) 64,.cel go (brow n (fun _=>false)) 4]:=HP.trans hInvS hH18
  refine WC.region (WL.z (.slice p n cap) 32 (WL.z (vI (n:Int)) 33 (WL.z (vI 0) 34 (WL.k hK20 (WC.block ?_)))));refine WC.loop (fun kk0 ll0 ww0=>∃ (i:Nat),ll0=[(4,vP b4 0),(11,vS ga n n),(13,vS go n n),(33,vI (n:Int)),(34,vI (i:Int))]∧kk0=n-i∧(i≤n)∧(∀ i9,TbOk s y l m ww0 (T9 i9))∧HP Tr w ww0 [.cel b4 #[vI s,vI y,vI l,vI m] 23,.cel b6 #[.func (.func (fhK K)) #[] #[]] 44,.cel b23 #[.slice p n cap,.func (.func 33) #[] #[vP b6 0,vP b4 0],.func (.func (fjK K)) #[] #[],.func (.func 34) #[] #[],.func (.func 35) #[] #[],vS ga n n] 71,.cel ga (aR n T9) 64,.cel go (brow n (mkF (tabs T9) l i)) 4]) (n) [(4,vP b4 0),(11,vS ga n n),(13,vS go n n),(33,vI (n:Int)),(34,vI 0)] ⟨rfl,rfl,rfl,rfl,rfl,trivial⟩ ⟨0,rfl,rfl,Nat.zero_le _,(fun i9=>(hT8 i9).below hal9),(by rw [show brow n (mkF (tabs T9) l 0)=brow n (fun _=>false) from brow_congr (fun j _=>mkF_0 (tabs T9) l j)];exact hH21)⟩ ?_;rintro kk l w23 ⟨i,rfl,hkk,hi,hTn,hH24⟩ K22 hK22;have hInv:=hH24;have hB9:=HP.ownB (A:=[Go.Proofs.YtmjnakhpekbenaaGreat.Fw.Ent.cel b4 #[vI s,vI y,vI l,vI m] 23,Go.Proofs.YtmjnakhpekbenaaGreat.Fw.Ent.cel b6 #[.func (.func (fhK K)) #[] #[]] 44,Go.Proofs.YtmjnakhpekbenaaGreat.Fw.Ent.cel b23 #[.slice p n cap,.func (.func 33) #[] #[vP b6 0,vP b4 0],.func (.func (fjK K)) #[] #[],.func (.func 34) #[] #[],.func (.func 35) #[] #[],vS ga n n] 71,Go.Proofs.YtmjnakhpekbenaaGreat.Fw.Ent.cel ga (aR n T9) 64]) hInv;have hH25:=HP.startB hB9;refine WC.seq fun K26 hK26=>WC.region ?_;by_cases hlt:(i:Int)<(n:Int)
  ·
   refine WL.y (.bool true) 35 (x_lss rfl rfl rfl (dT (hlt))) (WL.k hK26 (WC.seq fun K27 hK27=>?_));refine WC.yes rfl ?_;refine WC.skip (WQ.then (hK27 _ _ _ (WC.seq fun K28 hK28=>WC.block (WC.seq fun K29 hK29=>WC.region (WL.z (vI (i:Int)) 36 (WL.z (vI (i:Int)) 14 (WL.k hK29 ?_)))))));have hx9:=line_of hg.2.2.1 (show i≤999 by omega);refine WC.confG (γ:=Nat × Unit) [(14,vI (i:Int)),(36,vI (i:Int)),(35,.bool true),(4,vP b4 0),(11,vS ga n n),(13,vS go n n),(33,vI (n:Int)),(34,vI (i:Int))] (fun gy=>[vS go n n,vI (i:Int),vS ga n n,vI (i:Int),vP ga i,.slice ((T9 i).q) ((T9 i).t.length) ((T9 i).c),vI (i:Int),vP b4 2,vI l,vI ((i:Int)/l),.tuple #[vI (gy.1:Int),.bool ((ageT (T9 i).t ((i:Int)/l)).isSome)],.tuple #[vI (gy.1:Int),.bool ((ageT (T9 i).t ((i:Int)/l)).isSome)],vI (gy.1:Int),.bool ((ageT (T9 i).t ((i:Int)/l)).isSome),vP go i,undef]) (fun gy D wz=>HP (Out [Go.Proofs.YtmjnakhpekbenaaGreat.Fw.Ent.cel go (brow n (mkF (tabs T9) l i)) 4]) w23 wz [(bif D 15 then Ent.cel go (brow n (upB (mkF (tabs T9) l i) i ((ageT (T9 i).t ((i:Int)/l)).isSome))) 4 else Ent.cel go (brow n (mkF (tabs T9) l i)) 4)]) (0,()) (by kernel_rfl) ⟨rfl,rfl,rfl,rfl,rfl,rfl,rfl,rfl,trivial⟩ (by kernel_rfl) (by kernel_rfl) (by kernel_rfl) (fun _=>rfl) (by kernel_rfl) (HP.drew hH25) ?_ ?_
   ·
    refine AllOk.cons ?o0 (AllOk.cons ?o1 (AllOk.cons ?o2 (AllOk.cons ?o3 (AllOk.cons ?o4 (AllOk.cons ?o5 (AllOk.cons ?o6 (AllOk.cons ?o7 (AllOk.cons ?o8 (AllOk.cons ?o9 (AllOk.cons ?o10 (AllOk.cons ?o11 (AllOk.cons ?o12 (AllOk.cons ?o13 (AllOk.cons ?o14 (AllOk.cons ?o15 (AllOk.nil _))))))))))))))))
    case o0 =>
     intro gy D wz hDi hdep hclo hW;exact cfv gy wz (by kernel_rfl) hW
    case o1 =>
     intro gy D wz hDi hdep hclo hW;exact cfv gy wz (by kernel_rfl) hW
    case o2 =>
     intro gy D wz hDi hdep hclo hW;exact cfv gy wz (by kernel_rfl) hW
    case o3 =>
     intro gy D wz hDi hdep hclo hW;exact cfv gy wz (by kernel_rfl) hW
    case o4 =>
     intro gy D wz hDi hdep hclo hW;exact cfv gy wz (x_ix (b:=ga) (off:=0) i i Tryz.underlying69 sz64) hW
    case o5 =>
     intro gy D wz hDi hdep hclo hW;exact cfv gy wz (x_load rfl rfl Tryz.underlying64 rfl (HP.old hW (out1 (ne_of hInv 3 4 (by decide) rfl rfl rfl rfl)) (HP.cell hInv 3 rfl (aR_get (by omega))))) hW
    case o6 =>
     intro gy D wz hDi hdep hclo hW;exact cfv gy wz (by kernel_rfl) hW
    case o7 =>
     intro gy D wz hDi hdep hclo hW;exact cfv gy wz (by kernel_rfl) hW
    case o8 =>
     intro gy D wz hDi hdep hclo hW;exact cfv gy wz (x_load rfl rfl Tryz.underlying3 rfl (HP.old hW (out1 (ne_of hInv 0 4 (by decide) rfl rfl rfl rfl)) (HP.cell (off:=2) hInv 0 rfl rfl))) hW
    case o9 =>
     intro gy D wz hDi hdep hclo hW;exact cfv gy wz (x_quo rfl rfl rfl (by omega) (tdiv_pos (by omega) (by omega)) (by have:=hx9;omega) (by have:=hx9;omega)) hW
    case o10 =>
     intro gy D wz hDi hdep hclo hW;have d15:D 15=false:=by
      cases h:D 15 with
      | false=>rfl
      | true=>exact absurd (hclo 15 _ rfl h ⟨10,.chain⟩ (by simp) rfl) (by rw [hDi];exact Bool.false_ne_true)
     have d11:D 11=false:=by
      cases h:D 11 with
      | false=>rfl
      | true=>exact absurd (hclo 11 _ rfl h ⟨10,.data⟩ (by simp) rfl) (by rw [hDi];exact Bool.false_ne_true)
     have d12:D 12=false:=by
      cases h:D 12 with
      | false=>rfl
      | true=>exact absurd (hclo 12 _ rfl h ⟨11,.data⟩ (by simp) rfl) (by rw [d11];exact Bool.false_ne_true)
     have hW2:=hW
     try simp only [d15,hDi,cond_true,cond_false,List.append_nil,List.nil_append,List.cons_append] at hW2
     refine .inl ⟨rfl,rfl,.inr (.inr ⟨37,#[.slice ((T9 i).q) ((T9 i).t.length) ((T9 i).c),vI ((i:Int)/l)],by kernel_rfl,(find2_any (T9 i).q (T9 i).t (T9 i).c _ (keepT (hTn i) (fun b o x hc=>out_bool hB9 hc) hW2).inn ((i:Int)/l) (by have:=(hTn i).ok.len;omega) (hTn i).ok.so).mono ?_⟩)⟩;rintro e w3 ⟨k9,rfl,hb9⟩;have hA:=HP.call hW2 hb9;refine⟨⟨k9,()⟩,fun j hj=>?_,rfl,?_⟩
     ·
      match j,hj with
      | 0,hj=>rfl
      | 1,hj=>rfl
      | 2,hj=>rfl
      | 3,hj=>rfl
      | 4,hj=>rfl
      | 5,hj=>rfl
      | 6,hj=>rfl
      | 7,hj=>rfl
      | 8,hj=>rfl
      | 9,hj=>rfl
      | 10,hj=>rw [hDi] at hj;cases hj
      | 11,hj=>exact absurd hj (by rw [d11];exact Bool.false_ne_true)
      | 12,hj=>exact absurd hj (by rw [d12];exact Bool.false_ne_true)
      | 13,hj=>rfl
      | 14,hj=>rfl
      | 15,hj=>rfl
      | j+16,_=>rfl
     ·
      show HP (Out [Go.Proofs.YtmjnakhpekbenaaGreat.Fw.Ent.cel go (brow n (mkF (tabs T9) l i)) 4]) w23 w3 [(bif D 15 then Ent.cel go (brow n (upB (mkF (tabs T9) l i) i ((ageT (T9 i).t ((i:Int)/l)).isSome))) 4 else Ent.cel go (brow n (mkF (tabs T9) l i)) 4)]
      try simp only [d15,cond_true,cond_false,List.append_nil,List.nil_append,List.cons_append]
      exact hA
    case o11 =>
     intro gy D wz hDi hdep hclo hW;exact cfv gy wz (by kernel_rfl) hW
    case o12 =>
     intro gy D wz hDi hdep hclo hW;exact cfv gy wz (by kernel_rfl) hW
    case o13 =>
     intro gy D wz hDi hdep hclo hW;exact cfv gy wz (by kernel_rfl) hW
    case o14 =>
     intro gy D wz hDi hdep hclo hW;exact cfv gy wz (x_ix (i) (i) Tryz.underlying26 sz4) hW
    case o15 =>
     intro gy D wz hDi hdep hclo hW;have hW9:=hW;simp only [hDi,cond_false] at hW9;have h4:=HP.set (off:=i) (v:=.bool ((ageT (T9 i).t ((i:Int)/l)).isSome)) hW9 0 rfl;rw [brow_set] at h4;exact .inl ⟨rfl,rfl,.inr (.inl ⟨_,x_store rfl rfl rfl sz4 rfl (HP.cell hW9 0 rfl (brow_get (by omega) rfl)) (HP.free hW9 0 rfl),rfl,h4⟩)⟩
   rintro ⟨k9,gu⟩ D w30 hall hH31;simp only [hall 15 (by kernel_rfl),cond_true,List.append_nil,List.nil_append,List.cons_append] at hH31;clear hall;refine WQ.sb [(4,vP b4 0),(11,vS ga n n),(13,vS go n n),(14,vI (i:Int)),(33,vI (n:Int)),(34,vI (i:Int)),(35,.bool true)] (WQ.inNormal (WQ.then (hK28 _ _ _ (WC.region (WL.y (vI ((i+1:Nat):Int)) 52 (x_ad (((i+1:Nat):Int))) (WL.z (vI ((i+1:Nat):Int)) 34 (WL.nil ?_)))))));have hnb:brow n (upB (mkF (tabs T9) l i) i (ageT (T9 i).t ((i:Int)/l)).isSome)=brow n (mkF (tabs T9) l (i+1)):=brow_congr (fun j hj=>mkF_step (tabs T9) l i j);have hF9:=hH31;rw [hnb] at hF9;refine WQ.sb [(4,vP b4 0),(11,vS ga n n),(13,vS go n n),(33,vI (n:Int)),(34,vI ((i+1:Nat):Int))] ?_;refine WQ.then (hK22 _ _ _ (by omega) ⟨i+1,rfl,rfl,by omega,(fun i9=>keepT (hTn i9) (fun b o x hc=>out_bool hB9 hc) hF9),(HP.exch (A:=[Go.Proofs.YtmjnakhpekbenaaGreat.Fw.Ent.cel b4 #[vI s,vI y,vI l,vI m] 23,Go.Proofs.YtmjnakhpekbenaaGreat.Fw.Ent.cel b6 #[.func (.func (fhK K)) #[] #[]] 44,Go.Proofs.YtmjnakhpekbenaaGreat.Fw.Ent.cel b23 #[.slice p n cap,.func (.func 33) #[] #[vP b6 0,vP b4 0],.func (.func (fjK K)) #[] #[],.func (.func 34) #[] #[],.func (.func 35) #[] #[],vS ga n n] 71,Go.Proofs.YtmjnakhpekbenaaGreat.Fw.Ent.cel ga (aR n T9) 64]) hInv hF9)⟩)
  ·
   refine WL.y (.bool false) 35 (x_lss rfl rfl rfl (dF (hlt))) (WL.k hK26 (WC.seq fun K32 hK32=>?_));refine WC.no rfl ?_;refine WC.exit (WQ.thenExit (WQ.thenExit (WQ.inExit (WQ.then (hK19 _ _ _ (WC.seq fun K33 hK33=>WC.region (WL.z (vS go n n) 53 (WL.z (vS go n n) 8 (WL.z (vI 0) 9 (WL.nil ?_))))))))));refine WQ.then (hK33 _ _ _ (WC.ret ?_));refine WQ.ret2 8 9 rfl rfl rfl ?_;exact .inr ⟨hok,go,rfl,by rw [brow_congr (mkF_endK hsT (by omega))] at hInv;exact HP.drop (HP.drop (HP.drop (HP.drop hInv 3) 2) 1) 0⟩
 ·
  refine WL.c 32 #[.agg #[vI s,vI y,vI l,vI m],.slice p n cap] 17 ?_;refine(checked_at hok p cap _ (hIn.below (HP.below hH6)) hn).mono ?_;rintro e w34 ⟨rfl,hb35⟩;refine⟨_,rfl,?_⟩;have hH36:=HP.call hH6 hb35;refine WL.z (.bool true) 18 (WL.k hK8 ?_);refine WC.yes rfl ?_;refine WC.seq fun K37 hK37=>WC.region (WL.z (.slice none 0 0) 8 (WL.z (vI 1) 9 (WL.k hK37 (WC.ret ?_))));refine WQ.thenRet ?_;refine WQ.ret2 8 9 rfl rfl rfl ?_;exact .inl ⟨hok,rfl,HP.below hH36⟩
abbrev mk0 (s y l:Int) (c:Nat→Int) (n:Nat) (R:Fl.Tr) (i:Nat):Bool:=mkK false s y l c n R i
abbrev MarkR0 (s y l m:Int) (c A B:Nat→Int) (n:Nat) (R:Fl.Tr) (w:World) (e:Ending) (w':World):Prop:=MarkRK false s y l m c A B n R w e w'
abbrev mk1 (s y l:Int) (c:Nat→Int) (n:Nat) (R:Fl.Tr) (i:Nat):Bool:=mkK true s y l c n R i
abbrev MarkR1 (s y l m:Int) (c A B:Nat→Int) (n:Nat) (R:Fl.Tr) (w:World) (e:Ending) (w':World):Prop:=MarkRK true s y l m c A B n R w e w'
theorem marks0_any (s y l m:Int) (p:Option Addr) (n cap:Nat) (c A B:Nat→Int) (R:Fl.Tr) (hR:okC s y l m c A B n=true→Fl.Is (cdOf c n) R 0 n∧∀ (pb:Nat) (cq:Option Addr) (cap b6 b4 ga:Nat),BrAll (BrP0 s y l m pb cq n cap b6 b4 ga c A B) (BrA0 s y l m pb cq n cap b6 b4 ga c A B) R) (w:World) (hIn:Ec.InC w p n c A B) (hn:n≤400) :
    Calls Tryz.prog 18 #[.agg #[vI s,vI y,vI l,vI m],.slice p n cap,.func (.func 19) #[] #[],.func (.func 20) #[] #[]] w (MarkR0 s y l m c A B n R w):=marksK_any false s y l m p n cap c A B R hR w hIn hn
theorem marks1_any (s y l m:Int) (p:Option Addr) (n cap:Nat) (c A B:Nat→Int) (R:Fl.Tr) (hR:okC s y l m c A B n=true→Fl.Is (cdOf c n) R 0 n∧∀ (pb:Nat) (cq:Option Addr) (cap b6 b4 ga:Nat),BrAll (BrP1 s y l m pb cq n cap b6 b4 ga c A B) (BrA1 s y l m pb cq n cap b6 b4 ga c A B) R) (w:World) (hIn:Ec.InC w p n c A B) (hn:n≤400) :
    Calls Tryz.prog 18 #[.agg #[vI s,vI y,vI l,vI m],.slice p n cap,.func (.func 23) #[] #[],.func (.func 24) #[] #[]] w (MarkR1 s y l m c A B n R w):=marksK_any true s y l m p n cap c A B R hR w hIn hn
theorem opsK_f (s y l:Int):opsK false s y l=opsM s y l:=by simp only [opsK,opsM,jK,kK,muK,cond_false]
theorem opsK_t (s y l:Int):opsK true s y l=opsN s y l:=by simp only [opsK,opsN,jK,kK,muK,cond_true]
end Ca
end Go.Proofs.YtmjnakhpekbenaaGreat
namespace Go.Proofs.YtmjnakhpekbenaaGreat
set_option maxRecDepth 20000
set_option maxHeartbeats 4000000
open Go.RowKit Fw
namespace Ca
theorem Must_any (s y l m:Int) (p:Option Addr) (n cap:Nat) (c A B:Nat→Int) (R:Fl.Tr) (hR:okC s y l m c A B n=true→Fl.Is (cdOf c n) R 0 n∧∀ (pb:Nat) (cq:Option Addr) (cap b6 b4 ga:Nat),BrAll (BrP0 s y l m pb cq n cap b6 b4 ga c A B) (BrA0 s y l m pb cq n cap b6 b4 ga c A B) R) (w:World) (hIn:Ec.InC w p n c A B) (hn:n≤400) :
  Calls Tryz.prog 6 #[.agg #[vI s,vI y,vI l,vI m],.slice p n cap] w (MarkR0 s y l m c A B n R w):=by
 refine calls_of Tryz.func6 rfl (m:=11) rfl [(0,.agg #[vI s,vI y,vI l,vI m]),(1,.slice p n cap)] (Fr_enter [.agg #[vI s,vI y,vI l,vI m],.slice p n cap] 11 (Nat.le_of_ble_eq_true rfl)) ?_;have hH1:HP Tr w w []:=HP.refl w;refine WC.seq fun K2 hK2=>WC.region ?_;refine WL.alloc (c:=#[vI s,vI y,vI l,vI m]) (T:=23) hH1 2 rfl (by decide) rfl rfl (fun b2=>vP b2 0) (by kernel_rfl) (fun b2 w3 hw3=>?_);have hH4:HP Tr w w3 [.cel b2 #[vI s,vI y,vI l,vI m] 23]:=hw3.2;have nb2:=hw3.1;clear hw3;refine WL.z (.slice none 0 0) 4 (WL.z (vI 0) 5 (WL.k hK2 (WC.seq fun K5 hK5=>WC.region (WL.y (.agg #[vI s,vI y,vI l,vI m]) 6 (x_loadS (cs:=[vI s,vI y,vI l,vI m]) rfl rfl Tryz.underlying23 rfl sz23 (HP.range hH4 0 rfl rfl)) (WL.z (.slice p n cap) 7 ?_)))));refine WL.c 18 #[.agg #[vI s,vI y,vI l,vI m],.slice p n cap,.func (.func 19) #[] #[],.func (.func 20) #[] #[]] 8 ?_;refine(marks0_any s y l m p n cap c A B R hR _ (hIn.below (HP.below hH4)) hn).mono ?_;rintro e w4 (⟨hno,rfl,hb⟩ | ⟨hyes,go,rfl,hb⟩)
 ·
  refine⟨_,rfl,?_⟩;have hH6:=HP.call hH4 hb;refine WL.z (.slice none 0 0) 9 (WL.z (vI 1) 10 (WL.z (.slice none 0 0) 4 (WL.z (vI 1) 5 (WL.k hK5 (WC.sb [(0,.agg #[vI s,vI y,vI l,vI m]),(1,.slice p n cap),(2,vP b2 0),(4,.slice none 0 0),(5,vI 1)] (WC.ret ?_))))));refine WQ.ret2 4 5 rfl rfl rfl ?_;exact .inl ⟨hno,rfl,HP.below hH6⟩
 ·
  refine⟨_,rfl,?_⟩;have hH7:HP Tr w _ [.cel b2 #[vI s,vI y,vI l,vI m] 23,.cel go (brow n (mk0 s y l c n R)) 4]:=HP.trans hH4 hb;refine WL.z (vS go n n) 9 (WL.z (vI 0) 10 (WL.z (vS go n n) 4 (WL.z (vI 0) 5 (WL.k hK5 (WC.sb [(0,.agg #[vI s,vI y,vI l,vI m]),(1,.slice p n cap),(2,vP b2 0),(4,vS go n n),(5,vI 0)] (WC.ret ?_))))));refine WQ.ret2 4 5 rfl rfl rfl ?_;exact .inr ⟨hyes,go,rfl,HP.drop hH7 0⟩
def c0:Nat→Int:=fun _=>0
def R5:Fl.Tr:=.one 0 (.one 1 (.one 2 (.one 3 (.one 4 .nil))))
theorem ok5:okC 1 2 4 1 c0 c0 c0 5=true:=by kernel_rfl
theorem mk5:brow 5 (mk0 1 2 4 c0 5 R5)=#[.bool false,.bool true,.bool true,.bool true,.bool false]:=by kernel_rfl
theorem is5:Fl.Is (cdOf c0 5) R5 0 5:=⟨rfl,fun h=>absurd (show (29:Int)≤0 from h.1) (by decide),rfl,fun h=>absurd (show (29:Int)≤0 from h.1) (by decide),rfl,fun h=>absurd (show (29:Int)≤0 from h.1) (by decide),rfl,fun h=>absurd (show (29:Int)≤0 from h.1) (by decide),rfl,fun h=>absurd (show (29:Int)≤0 from h.1) (by decide),rfl⟩
theorem must5_any (gc:Nat) (w:World) (hIn:Ec.InC w (some ⟨gc,0,none⟩) 5 c0 c0 c0) :
    Calls Tryz.prog 6 #[.agg #[vI 1,vI 2,vI 4,vI 1],vS gc 5 5] w fun e w'=>∃ go,e=.returned (.tuple #[vS go 5 5,vI 0])∧HP Tr w w' [.cel go #[.bool false,.bool true,.bool true,.bool true,.bool false] 4] :=
  (Must_any 1 2 4 1 (some ⟨gc,0,none⟩) 5 5 c0 c0 c0 R5 (fun _=>⟨is5,fun _ _ _ _ _ _=>trivial⟩) w hIn (by decide)).mono fun e w' h=>by
    rcases h with ⟨h,_⟩ | ⟨_,go,h1,h2⟩
    · rw [ok5] at h;cases h
    · exact⟨go,h1,by rw [mk5] at h2;exact h2⟩
theorem touch5_any (q:Option Addr) (cp:Nat) (b10:Nat) (w:World) (hS:InS2 w q [⟨some ⟨b10,0,none⟩,[],0⟩]) :
    Calls Tryz.prog 17 #[.agg #[vI 1,vI 2,vI 4,vI 1],.slice q 1 cp,vI 1] w fun e w'=>∃ pv cp' r,e=.returned (.tuple #[.slice pv 1 cp',.bool false,vI 0])∧r.xs=[0]∧InS2 w' pv [r]∧Below w.heap.size w w' :=
  (Touch_any 1 2 4 1 1 q [⟨some ⟨b10,0,none⟩,[],0⟩] cp w hS (by simp)).mono fun e w' h=>by
    rcases h with ⟨h,_⟩ | ⟨_,pv,cp',S',h1,h2,h3,h4⟩
    · have e0 : stX [⟨some ⟨b10, 0, none⟩, [], 0⟩] = [[]] := rfl
      rw [e0] at h;exact absurd h (by decide +kernel)
    · have e1 : stp 1 2 4 1 (stX [⟨some ⟨b10, 0, none⟩, [], 0⟩]) = [[0]] := by kernel_rfl
      have e2:hitN 1 4 1 (stX [⟨some ⟨b10,0,none⟩,[],0⟩])=0:=(by kernel_rfl);rw [e1] at h2;rw [e2] at h1
      match S',h2,h1,h3 with
      | [],h2,_,_=>cases h2
      | [r],h2,h1,h3=>exact⟨pv,cp',r,h1,by simpa [stX] using h2,h3,h4⟩
      | r::r2::S',h2,_,_=>simp [stX] at h2
theorem info75:∃ i,Tryz.prog.info? 51=some i∧i.zero=some (.agg #[.int .i64 0,.int .i64 0,.int .i64 0])∧i.size=3∧i.bytes=24:=Ec.infoR'
theorem make5 (W:World):(Instr.makeSlice 24 (.int .i64 5) (.int .i64 5)).run Tryz.prog W=.ok (.slice (some ⟨W.heap.size,0,none⟩) 5 5) (W.alloc (.cells (madeCells #[.int .i64 0,.int .i64 0,.int .i64 0] (5*3)) 51)):=by
  obtain⟨i0,hi0,hz0,hz1,hz2⟩:=info75;have hr:=run_make (P:=Tryz.prog) W 24 51 i0 _ Tryz.underlying24 hi0 hz0 .i64 .i64 5 5 (by omega) (by omega) (by rw [hz2];omega) (by omega);rw [hz1] at hr;exact hr
theorem made15 {k:Nat} (hk:k<15):(madeCells #[Value.int .i64 0,.int .i64 0,.int .i64 0] (5*3))[k]?=some (Value.int .i64 0):=by
  have h:k % 3=0∨k % 3=1∨k % 3=2:=(by omega);unfold madeCells;rcases h with h | h | h <;> simp [hk,h]
theorem in5 {w:World} {g:Nat} (h:Ent.holds w (.cel g (madeCells #[.int .i64 0,.int .i64 0,.int .i64 0] (5*3)) 51)):Ec.InC w (some ⟨g,0,none⟩) 5 c0 c0 c0:=fun _=>⟨g,0,rfl,fun i hi j v hv=>by
  have h2:w.heap[g]?=some (.cells _ 51 (0,0)):=h;rw [cell_of_row w g _ _ 51 (0,0) h2];have hv2:v=.int .i64 0∧j<3:=by
    match j,hv with
    | 0,hv=>simp [c0] at hv;exact⟨hv.symm,by omega⟩
    | 1,hv=>simp [c0] at hv;exact⟨hv.symm,by omega⟩
    | 2,hv=>simp [c0] at hv;exact⟨hv.symm,by omega⟩
    | j+3,hv=>simp at hv
  obtain⟨rfl,hj⟩:=hv2;have hlt:0+i*3+j<15:=(by omega);generalize 0+i*3+j=k at hlt;exact made15 hlt⟩
theorem sane_any (w:World) :
  Calls Tryz.prog 5 #[] w fun e w'=>e=.returned (.bool true)∧Below w.heap.size w w':=by
 refine calls_of Tryz.func5 rfl (m:=74) rfl [] (Fr_enter [] 74 (Nat.le_of_ble_eq_true rfl)) ?_;have hH1:HP Tr w w []:=HP.refl w;refine WC.seq fun K2 hK2=>WC.region (WL.z (.bool false) 0 (WL.k hK2 (WC.seq fun K3 hK3=>WC.region (WL.z (.agg #[vI 1,vI 2,vI 4,vI 1]) 7 ?_))));refine WL.alloc (c:=#[vI 0,vI 0,vI 0,vI 0]) (T:=23) hH1 1 rfl (by decide) rfl rfl (fun b1=>vP b1 0) (by kernel_rfl) (fun b1 w4 hw4=>?_);have hH5:HP Tr w w4 [.cel b1 #[vI 0,vI 0,vI 0,vI 0] 23]:=hw4.2;have nb1:=hw4.1;clear hw4;refine WL.storeS (H2:=[.cel b1 #[vI 1,vI 2,vI 4,vI 1] 23]) 0 hH5 rfl rfl rfl rfl rfl rfl sz23 rfl (Nat.le_of_ble_eq_true rfl) rfl rfl ?_;intro w6 hH7;refine WL.k hK3 (WC.seq fun K8 hK8=>WC.region (WL.y (.agg #[vI 1,vI 2,vI 4,vI 1]) 9 (x_loadS (cs:=[vI 1,vI 2,vI 4,vI 1]) rfl rfl Tryz.underlying23 rfl sz23 (HP.range hH7 0 rfl rfl)) ?_));refine WL.alloc (c:=#[]) (T:=3) hH7 10 rfl (by decide) rfl rfl (fun b10=>vS b10 0 0) (by kernel_rfl) (fun b10 w9 hw9=>?_);have hH10:HP Tr w w9 [.cel b1 #[vI 1,vI 2,vI 4,vI 1] 23,.cel b10 #[] 3]:=hw9.2;have nb10:=hw9.1;clear hw9;refine WL.alloc (c:=#[vS b10 0 0]) (T:=32) hH10 11 rfl (by decide) rfl rfl (fun b11=>vS b11 1 1) (by kernel_rfl) (fun b11 w11 hw11=>?_);have hH12:HP Tr w w11 [.cel b1 #[vI 1,vI 2,vI 4,vI 1] 23,.cel b10 #[] 3,.cel b11 #[vS b10 0 0] 32]:=hw11.2;have nb11:=hw11.1;clear hw11;have hS9:InS2 _ (some ⟨b11,0,none⟩) [⟨some ⟨b10,0,none⟩,[],0⟩]:=⟨fun _=>⟨b11,0,rfl,fun i hi j v hv=>by
    have hi:i<1:=hi;obtain rfl:i=0:=by omega
    match j,hv with
    | 0,hv=>cases hv;exact HP.cell hH12 2 rfl rfl
    | j+1,hv=>simp at hv⟩,fun r hr=>by obtain rfl:=List.mem_singleton.1 hr;exact⟨fun h=>absurd h (by simp),Nat.le_refl _,Nat.zero_le _,fun x hx=>by cases hx⟩⟩
 refine WL.c 17 #[.agg #[vI 1,vI 2,vI 4,vI 1],vS b11 1 1,vI 1] 12 ?_;refine(touch5_any (some ⟨b11,0,none⟩) 1 b10 _ hS9).mono ?_;rintro e w13 ⟨pvt,cpt,rt,rfl,hrx,hIt,hb14⟩;refine⟨_,rfl,?_⟩;have hH15:=HP.call hH12 hb14;refine WL.z (.tuple #[.slice pvt 1 cpt,.bool false,vI 0]) 8 (WL.z (.slice pvt 1 cpt) 13 (WL.z (.bool false) 14 (WL.z (vI 0) 15 (WL.z (.slice pvt 1 cpt) 2 (WL.z (.bool false) 3 (WL.z (vI 0) 4 (WL.k hK8 (WC.sb [(0,.bool false),(1,vP b1 0),(2,.slice pvt 1 cpt),(3,.bool false),(4,vI 0)] (WC.seq fun K16 hK16=>?_)))))))));have hInv:=hH15;have hb1r:∀ i9,i9<1→World.rangeAt w13 b1 i9 [vI 1,vI 2,vI 4,vI 1]:=fun i9 h9=>match i9,h9 with | 0,_=>HP.range hInv 0 rfl rfl | n+1,h9=>absurd h9 (by omega)
 have hH17:HP Tr w13 w13 []:=HP.refl w13;refine WC.confG (γ:=Nat × Nat × Unit) [(0,.bool false),(1,vP b1 0),(2,.slice pvt 1 cpt),(3,.bool false),(4,vI 0)] (fun gy=>[.agg #[vI 1,vI 2,vI 4,vI 1],vS gy.1 5 5,.tuple #[vS gy.2.1 5 5,vI 0],.tuple #[vS gy.2.1 5 5,vI 0],vS gy.2.1 5 5,vI 0,vS gy.2.1 5 5,vI 0]) (fun gy D wz=>HP Tr w13 wz ([]++((bif D 1 then [Ent.cel gy.1 (madeCells #[.int .i64 0,.int .i64 0,.int .i64 0] (5*3)) 51] else [])++((bif D 2 then [Ent.cel gy.2.1 #[.bool false,.bool true,.bool true,.bool true,.bool false] 4] else [])++[])))) (0,0,()) (by kernel_rfl) ⟨rfl,rfl,rfl,rfl,rfl,trivial⟩ (by kernel_rfl) (by kernel_rfl) (by kernel_rfl) (fun _=>rfl) (by kernel_rfl) (HP.drew hH17) ?_ ?_
 ·
  refine AllOk.cons ?o0 (AllOk.cons ?o1 (AllOk.cons ?o2 (AllOk.cons ?o3 (AllOk.cons ?o4 (AllOk.cons ?o5 (AllOk.cons ?o6 (AllOk.cons ?o7 (AllOk.nil _))))))))
  case o0 =>
   intro gy D wz hDi hdep hclo hW;exact cfv gy wz (x_loadS (cs:=[vI 1,vI 2,vI 4,vI 1]) rfl rfl Tryz.underlying23 rfl sz23 (HP.oldRange hW trivial (hb1r 0 (by omega)))) hW
  case o1 =>
   intro gy D wz hDi hdep hclo hW;have d2:D 2=false:=by
    cases h:D 2 with
    | false=>rfl
    | true=>exact absurd (hclo 2 _ rfl h ⟨1,.data⟩ (by simp) rfl) (by rw [hDi];exact Bool.false_ne_true)
   have hW2:=hW
   try simp only [d2,hDi,cond_true,cond_false,List.append_nil,List.nil_append,List.cons_append] at hW2
   refine cf_alloc (c:=(madeCells #[.int .i64 0,.int .i64 0,.int .i64 0] (5*3))) (T:=51) hW2 (fun b18=>vS b18 5 5) rfl rfl (x_makeR rfl rfl rfl (make5 _)) ?_;rintro b18 w3 hA;refine⟨⟨b18,gy.2.1,()⟩,fun j hj=>?_,rfl,?_⟩
   ·
    match j,hj with
    | 0,hj=>rfl
    | 1,hj=>rw [hDi] at hj;cases hj
    | 2,hj=>rfl
    | 3,hj=>rfl
    | 4,hj=>rfl
    | 5,hj=>rfl
    | 6,hj=>rfl
    | 7,hj=>rfl
    | j+8,_=>rfl
   ·
    show HP Tr w13 w3 ([]++([Ent.cel b18 (madeCells #[.int .i64 0,.int .i64 0,.int .i64 0] (5*3)) 51]++((bif D 2 then [Ent.cel gy.2.1 #[.bool false,.bool true,.bool true,.bool true,.bool false] 4] else [])++[])))
    try simp only [d2,cond_true,cond_false,List.append_nil,List.nil_append,List.cons_append]
    exact hA
  case o2 =>
   intro gy D wz hDi hdep hclo hW;have d1:D 1=true:=hdep ⟨1,.data⟩ (by simp) rfl;have d3:D 3=false:=by
    cases h:D 3 with
    | false=>rfl
    | true=>exact absurd (hclo 3 _ rfl h ⟨2,.data⟩ (by simp) rfl) (by rw [hDi];exact Bool.false_ne_true)
   have d4:D 4=false:=by
    cases h:D 4 with
    | false=>rfl
    | true=>exact absurd (hclo 4 _ rfl h ⟨3,.data⟩ (by simp) rfl) (by rw [d3];exact Bool.false_ne_true)
   have d6:D 6=false:=by
    cases h:D 6 with
    | false=>rfl
    | true=>exact absurd (hclo 6 _ rfl h ⟨2,.chain⟩ (by simp) rfl) (by rw [hDi];exact Bool.false_ne_true)
   have hW2:=hW
   try simp only [d1,hDi,cond_true,cond_false,List.append_nil,List.nil_append,List.cons_append] at hW2
   refine .inl ⟨rfl,rfl,.inr (.inr ⟨6,#[.agg #[vI 1,vI 2,vI 4,vI 1],vS gy.1 5 5],by kernel_rfl,(must5_any gy.1 _ (in5 (HP.get hW2 0 rfl))).mono ?_⟩)⟩;rintro e w3 ⟨go,rfl,hb9⟩;have hA:=HP.trans hW2 hb9;refine⟨⟨gy.1,go,()⟩,fun j hj=>?_,rfl,?_⟩
   ·
    match j,hj with
    | 0,hj=>rfl
    | 1,hj=>rfl
    | 2,hj=>rw [hDi] at hj;cases hj
    | 3,hj=>exact absurd hj (by rw [d3];exact Bool.false_ne_true)
    | 4,hj=>exact absurd hj (by rw [d4];exact Bool.false_ne_true)
    | 5,hj=>rfl
    | 6,hj=>exact absurd hj (by rw [d6];exact Bool.false_ne_true)
    | 7,hj=>rfl
    | j+8,_=>rfl
   ·
    show HP Tr w13 w3 ([]++((bif D 1 then [Ent.cel gy.1 (madeCells #[.int .i64 0,.int .i64 0,.int .i64 0] (5*3)) 51] else [])++([Ent.cel go #[.bool false,.bool true,.bool true,.bool true,.bool false] 4]++[])))
    try simp only [d1,cond_true,cond_false,List.append_nil,List.nil_append,List.cons_append]
    exact hA
  case o3 =>
   intro gy D wz hDi hdep hclo hW;exact cfv gy wz (by kernel_rfl) hW
  case o4 =>
   intro gy D wz hDi hdep hclo hW;exact cfv gy wz (by kernel_rfl) hW
  case o5 =>
   intro gy D wz hDi hdep hclo hW;exact cfv gy wz (by kernel_rfl) hW
  case o6 =>
   intro gy D wz hDi hdep hclo hW;exact cfv gy wz (by kernel_rfl) hW
  case o7 =>
   intro gy D wz hDi hdep hclo hW;exact cfv gy wz (by kernel_rfl) hW
 rintro ⟨b18,go,gu⟩ D w18 hall hH19;simp only [hall 1 (by kernel_rfl),hall 2 (by kernel_rfl),cond_true,List.append_nil,List.nil_append,List.cons_append] at hH19;clear hall;refine WQ.sb [(0,.bool false),(1,vP b1 0),(2,.slice pvt 1 cpt),(3,.bool false),(4,vI 0),(5,vS go 5 5),(6,vI 0)] (WQ.then (hK16 _ _ _ (WC.seq fun K20 hK20=>?_)));obtain⟨gt,ot,rfl,hrt⟩:=hIt.row (by simp);obtain⟨gr,orr,hqr,hrr⟩:=(hIt.inn rt (by simp)).row (by simp [hrx]);refine WC.region (WL.z (vI 0) 22 (WL.y (.bool true) 23 (x_eql rfl rfl rfl (by decide)) (WL.z (.bool true) 24 (WL.z (.bool false) 25 (WL.z (.bool true) 26 (WL.z (.bool true) 27 (WL.z (.bool true) 28 (WL.z (.slice (some ⟨gt,ot,none⟩) 1 cpt) 29 (WL.z (vI 1) 30 (WL.y (.bool true) 31 (x_eql rfl rfl rfl (by decide)) (WL.z (.bool true) 32 ?_)))))))))));refine WL.z (.bool true) 33 (WL.z (.slice (some ⟨gt,ot,none⟩) 1 cpt) 34 (WL.y (vP gt ot) 35 (x_ix (0) (ot) Tryz.underlying33 sz32) (WL.y (.slice (some ⟨gr,orr,none⟩) 1 rt.c) 36 (x_load rfl rfl Tryz.underlying32 rfl (by have q9:=(hrt 0 (by simp)) 0 _ rfl;simp only [List.getD_cons_zero,slV,hqr,hrx,List.length_cons,List.length_nil] at q9;exact HP.old hH19 trivial q9)) (WL.z (vI 1) 37 (WL.y (.bool true) 38 (x_eql rfl rfl rfl (by decide)) (WL.z (.bool true) 39 (WL.z (.bool true) 40 (WL.z (.slice (some ⟨gt,ot,none⟩) 1 cpt) 41 (WL.y (vP gt ot) 42 (x_ix (0) (ot) Tryz.underlying33 sz32) (WL.y (.slice (some ⟨gr,orr,none⟩) 1 rt.c) 43 (x_load rfl rfl Tryz.underlying32 rfl (by have q9:=(hrt 0 (by simp)) 0 _ rfl;simp only [List.getD_cons_zero,slV,hqr,hrx,List.length_cons,List.length_nil] at q9;exact HP.old hH19 trivial q9)) ?_))))))))));refine WL.y (vP gr orr) 44 (x_ix (0) (orr) Tryz.underlying32 sz3) (WL.y (vI 0) 45 (x_load rfl rfl Tryz.underlying3 rfl (by have q9:=(hrr 0 (by simp [hrx])) 0 _ rfl;rw [hrx] at q9;exact HP.old hH19 trivial q9)) (WL.y (.bool true) 46 (x_eql rfl rfl rfl (by decide)) (WL.z (.bool true) 47 (WL.z (.bool true) 48 (WL.z (vI 0) 49 (WL.y (.bool true) 50 (x_eql rfl rfl rfl (by decide)) (WL.z (.bool true) 51 (WL.z (.bool true) 52 (WL.z (vS go 5 5) 53 (WL.z (vI 5) 54 (WL.y (.bool true) 55 (x_eql rfl rfl rfl (by decide)) ?_)))))))))))
 refine WL.z (.bool true) 56 (WL.z (.bool true) 57 (WL.z (vS go 5 5) 58 (WL.y (vP go 0) 59 (x_ix (0) (0) Tryz.underlying26 sz4) (WL.y (.bool false) 60 (x_load rfl rfl Tryz.underlying4 rfl (HP.cell hH19 1 rfl rfl)) (WL.z (.bool true) 61 (WL.z (.bool true) 62 (WL.z (.bool true) 63 (WL.z (vS go 5 5) 64 (WL.y (vP go 1) 65 (x_ix (1) (1) Tryz.underlying26 sz4) (WL.y (.bool true) 66 (x_load rfl rfl Tryz.underlying4 rfl (HP.cell hH19 1 rfl rfl)) (WL.z (.bool true) 67 ?_)))))))))));refine WL.z (.bool true) 68 (WL.z (vS go 5 5) 69 (WL.y (vP go 4) 70 (x_ix (4) (4) Tryz.underlying26 sz4) (WL.y (.bool false) 71 (x_load rfl rfl Tryz.underlying4 rfl (HP.cell hH19 1 rfl rfl)) (WL.z (.bool true) 72 (WL.z (.bool true) 73 (WL.z (.bool true) 0 (WL.k hK20 (WC.sb [(0,.bool true),(1,vP b1 0),(2,.slice (some ⟨gt,ot,none⟩) 1 cpt),(3,.bool false),(4,vI 0),(5,vS go 5 5),(6,vI 0)] (WC.ret ?_)))))))));refine WQ.ret1 0 rfl rfl ?_;exact⟨rfl,HP.below (HP.trans hInv hH19)⟩
end Ca
end Go.Proofs.YtmjnakhpekbenaaGreat
namespace Go.Proofs.YtmjnakhpekbenaaGreat
set_option maxRecDepth 20000
set_option maxHeartbeats 4000000
open Go.RowKit Fw
namespace Ca
theorem eqTg (x y x' y':Int) (w:World):(Op.equalIn 10000 67 (.agg #[.int .i64 x,.int .i64 y]) (.agg #[.int .i64 x',.int .i64 y'])).run Tryz.prog w=.ok (decide (x=x'∧y=y')) w:=by
  have hi1:∀ (a a':Int) (w:World),(Op.equalIn 9999 3 (.int .i64 a) (.int .i64 a')).run Tryz.prog w=.ok (decide (a=a')) w:=fun a a' w=>by
    rw [show (9999:Nat)=9998+1 from rfl,run_equalIn_int w 9998 3 .i64 .i64 a a' Tryz.underlying3];by_cases h:a=a' <;> simp [h]
  obtain⟨i,hi⟩:∃ i,Tryz.prog.info? 3=some i:=Option.map_eq_some_iff.1 (show (Tryz.prog.info? 3).map (·.size)=some 1 by kernel_rfl) |>.imp fun _ h=>h.1;have hp:Tryz.prog.plainKey 3=true:=(by kernel_rfl);have hc:Tryz.prog.cellsOf 3=1:=(by kernel_rfl);rw [show (10000:Nat)=9999+1 from rfl,run_equalIn_array w 9999 _ _ Tryz.underlying67 hi,hc];have p0:∀ (x y:Int) (w:World),(part 3 #[Value.int .i64 x,.int .i64 y] (0*1)).run Tryz.prog w=.ok (.int .i64 x) w:=fun x y w=>run_part_plain w hp rfl;have p1:∀ (x y:Int) (w:World),(part 3 #[Value.int .i64 x,.int .i64 y] (1*1)).run Tryz.prog w=.ok (.int .i64 y) w:=fun x y w=>run_part_plain w hp rfl;have e2:List.range 2=[0,1]:=rfl;rw [e2];by_cases h1:x=x'
  · by_cases h2 : y = y'
    · simp [Op.eqItems,Sem.run_bind,p0,p1,hi1,Result.andThen_ok,h1,h2]
    · simp [Op.eqItems,Sem.run_bind,p0,p1,hi1,Result.andThen_ok,h1,h2]
  · simp [Op.eqItems,Sem.run_bind,p0,p1,hi1,Result.andThen_ok,h1]
theorem tab_eq {t u:List T2} (hl:t.length=u.length) (h:∀ i,i<t.length→lnT t i=lnT u i∧agT t i=agT u i):t=u :=
  List.ext_getElem hl fun i h1 h2=>by
    have:=h i h1;rw [lnT_get h1,lnT_get h2,agT_get h1,agT_get h2] at this;exact Prod.ext this.1 this.2
theorem Equal_any (p p2:Option Addr) (t u:List T2) (cp cp2:Nat) (w:World) (hT:InT w p t) (hU:InT w p2 u) (hn:t.length≤281474976710656) :
  Calls Tryz.prog 34 #[.slice p t.length cp,.slice p2 u.length cp2] w fun e w'=>e=.returned (.bool (decide (t=u)))∧Below w.heap.size w w':=by
 refine calls_of Tryz.func34 rfl (m:=26) rfl [(0,.slice p t.length cp),(1,.slice p2 u.length cp2)] (Fr_enter [.slice p t.length cp,.slice p2 u.length cp2] 26 (Nat.le_of_ble_eq_true rfl)) ?_;have hH1:HP Tr w w []:=HP.refl w;refine WC.seq fun K2 hK2=>WC.region (WL.z (.bool false) 4 (WL.k hK2 (WC.seq fun K3 hK3=>WC.seq fun K4 hK4=>WC.region (WL.z (.slice p t.length cp) 6 (WL.z (vI (t.length:Int)) 7 (WL.z (.slice p2 u.length cp2) 8 ?_))))));refine WL.z (vI (u.length:Int)) 9 ?_;by_cases hlen0:(t.length:Int)≠(u.length:Int)
 ·
  have hlen:¬ t.length=u.length:=(by omega);refine WL.y (.bool true) 10 (x_neq rfl rfl rfl (dT (hlen0))) (WL.k hK4 ?_);refine WC.yes rfl ?_;refine WC.seq fun K5 hK5=>WC.region (WL.z (.bool false) 4 (WL.k hK5 (WC.ret ?_)));refine WQ.thenRet ?_;refine WQ.ret1 4 rfl rfl ?_;exact⟨by rw [decide_eq_false (fun e=>hlen (by subst e;rfl))],HP.below hH1⟩
 ·
  have hlen:t.length=u.length:=(by omega);refine WL.y (.bool false) 10 (x_neq rfl rfl rfl (dF (hlen0))) (WL.k hK4 ?_);refine WC.no rfl ?_;refine WC.skip (WQ.then (hK3 _ _ _ (WC.seq fun K6 hK6=>WC.seq fun K7 hK7=>WC.region (WL.z (.slice p t.length cp) 11 (WL.z (vI (t.length:Int)) 12 (WL.z (vI 0) 13 (WL.k hK7 ?_)))))));refine WC.block ?_;refine WC.loop (fun kk0 ll0 ww0=>∃ (i:Nat),ll0=[(0,.slice p t.length cp),(1,.slice p2 u.length cp2),(12,vI (t.length:Int)),(13,vI (i:Int))]∧kk0=t.length-i∧(i≤t.length)∧(∀ j,j<i→lnT t j=lnT u j∧agT t j=agT u j)∧HP Tr w ww0 []) (t.length) [(0,.slice p t.length cp),(1,.slice p2 u.length cp2),(12,vI (t.length:Int)),(13,vI 0)] ⟨rfl,rfl,rfl,rfl,trivial⟩ ⟨0,rfl,rfl,Nat.zero_le _,fun j hj=>by omega,hH1⟩ ?_;rintro kk l w9 ⟨i,rfl,hkk,hi,hall,hH10⟩ K8 hK8;refine WC.seq fun K11 hK11=>WC.region ?_;by_cases hlt:(i:Int)<(t.length:Int)
  ·
   refine WL.y (.bool true) 14 (x_lss rfl rfl rfl (dT (hlt))) (WL.k hK11 (WC.seq fun K12 hK12=>?_));refine WC.yes rfl ?_;refine WC.skip (WQ.then (hK12 _ _ _ (WC.seq fun K13 hK13=>WC.block (WC.seq fun K14 hK14=>WC.region (WL.z (vI (i:Int)) 15 (WL.z (vI (i:Int)) 5 (WL.k hK14 ?_)))))));refine WC.seq fun K15 hK15=>?_;obtain⟨g,o,rfl,hrow⟩:=hT (by omega);obtain⟨g2,o2,rfl,hrow2⟩:=hU (by omega);refine WC.still (by kernel_rfl) (by kernel_rfl) ?_;have hH16:=HP.drew hH10;refine WS.z (.slice (some ⟨g,o,none⟩) t.length cp) 16 (WS.z (vI (i:Int)) 17 (WS.y (vP g (o+i*2)) 18 (x_ix (i) (o+i*2) Tryz.underlying64 sz67) (WS.y (.agg #[vI (lnT t i),vI (agT t i)]) 19 (x_loadS (cs:=[vI (lnT t i),vI (agT t i)]) rfl rfl Tryz.underlying67 rfl sz67 (HP.oldRange hH16 trivial (hrow i (by omega)))) (WS.z (.slice (some ⟨g2,o2,none⟩) u.length cp2) 20 (WS.z (vI (i:Int)) 21 (WS.y (vP g2 (o2+i*2)) 22 (x_ix (i) (o2+i*2) Tryz.underlying64 sz67) (WS.y (.agg #[vI (lnT u i),vI (agT u i)]) 23 (x_loadS (cs:=[vI (lnT u i),vI (agT u i)]) rfl rfl Tryz.underlying67 rfl sz67 (HP.oldRange hH16 trivial (hrow2 i (by omega)))) ?_)))))));by_cases hq:lnT t i=lnT u i∧agT t i=agT u i
   ·
    refine WS.y (.bool false) 24 (x_neqA rfl rfl rfl (by kernel_rfl) (eqTg _ _ _ _ _) (by rw [decide_eq_true hq];rfl)) (WS.nilQ (WQ.then (hK15 _ _ _ (WC.sb [(0,.slice (some ⟨g,o,none⟩) t.length cp),(1,.slice (some ⟨g2,o2,none⟩) u.length cp2),(5,vI (i:Int)),(12,vI (t.length:Int)),(13,vI (i:Int)),(14,.bool true),(24,.bool false)] ?_))));refine WC.no rfl ?_;refine WC.skip (WQ.inNormal (WQ.then (hK13 _ _ _ (WC.region (WL.y (vI ((i+1:Nat):Int)) 25 (x_ad (((i+1:Nat):Int))) (WL.z (vI ((i+1:Nat):Int)) 13 (WL.nil (WQ.sb [(0,.slice (some ⟨g,o,none⟩) t.length cp),(1,.slice (some ⟨g2,o2,none⟩) u.length cp2),(12,vI (t.length:Int)),(13,vI ((i+1:Nat):Int))] ?_))))))));refine WQ.then (hK8 _ _ _ (by omega) ⟨i+1,rfl,rfl,by omega,fun j hj=>by
          by_cases q9:j=i
          · subst q9;exact hq
          · exact hall j (by omega),hH16⟩)
   ·
    refine WS.y (.bool true) 24 (x_neqA rfl rfl rfl (by kernel_rfl) (eqTg _ _ _ _ _) (by rw [decide_eq_false hq];rfl)) (WS.nilQ (WQ.then (hK15 _ _ _ (WC.sb [(0,.slice (some ⟨g,o,none⟩) t.length cp),(1,.slice (some ⟨g2,o2,none⟩) u.length cp2),(5,vI (i:Int)),(12,vI (t.length:Int)),(13,vI (i:Int)),(14,.bool true),(24,.bool true)] ?_))));refine WC.yes rfl ?_;refine WC.seq fun K17 hK17=>WC.region (WL.z (.bool false) 4 (WL.k hK17 (WC.ret ?_)));refine WQ.inRet ?_;refine WQ.thenRet ?_;refine WQ.thenRet ?_;refine WQ.inRet ?_;refine WQ.thenRet ?_;refine WQ.ret1 4 rfl rfl ?_;exact⟨by rw [decide_eq_false (fun e=>hq (by subst e;exact⟨rfl,rfl⟩))],HP.below hH16⟩
  ·
   refine WL.y (.bool false) 14 (x_lss rfl rfl rfl (dF (hlt))) (WL.k hK11 (WC.seq fun K18 hK18=>?_));refine WC.no rfl ?_;refine WC.exit (WQ.thenExit (WQ.thenExit (WQ.inExit (WQ.then (hK6 _ _ _ (WC.seq fun K19 hK19=>WC.region (WL.z (.bool true) 4 (WL.k hK19 ?_))))))));refine WC.ret ?_;refine WQ.ret1 4 rfl rfl ?_;exact⟨by rw [decide_eq_true (tab_eq (by omega) fun j hj=>hall j (by omega))],HP.below hH10⟩
theorem SameTableG_any (p p2:Option Addr) (t u:List T2) (cp cp2:Nat) (w:World) (hT:InT w p t) (hU:InT w p2 u) (hn:t.length≤281474976710656) :
  Calls Tryz.prog 71 #[.slice p t.length cp,.slice p2 u.length cp2] w fun e w'=>e=.returned (.bool (decide (t=u)))∧Below w.heap.size w w':=by
 refine calls_of Tryz.func71 rfl (m:=26) rfl [(0,.slice p t.length cp),(1,.slice p2 u.length cp2)] (Fr_enter [.slice p t.length cp,.slice p2 u.length cp2] 26 (Nat.le_of_ble_eq_true rfl)) ?_;have hH1:HP Tr w w []:=HP.refl w;refine WC.seq fun K2 hK2=>WC.region (WL.z (.bool false) 4 (WL.k hK2 (WC.seq fun K3 hK3=>WC.seq fun K4 hK4=>WC.region (WL.z (.slice p t.length cp) 6 (WL.z (vI (t.length:Int)) 7 (WL.z (.slice p2 u.length cp2) 8 ?_))))));refine WL.z (vI (u.length:Int)) 9 ?_;by_cases hlen0:(t.length:Int)≠(u.length:Int)
 ·
  have hlen:¬ t.length=u.length:=(by omega);refine WL.y (.bool true) 10 (x_neq rfl rfl rfl (dT (hlen0))) (WL.k hK4 ?_);refine WC.yes rfl ?_;refine WC.seq fun K5 hK5=>WC.region (WL.z (.bool false) 4 (WL.k hK5 (WC.ret ?_)));refine WQ.thenRet ?_;refine WQ.ret1 4 rfl rfl ?_;exact⟨by rw [decide_eq_false (fun e=>hlen (by subst e;rfl))],HP.below hH1⟩
 ·
  have hlen:t.length=u.length:=(by omega);refine WL.y (.bool false) 10 (x_neq rfl rfl rfl (dF (hlen0))) (WL.k hK4 ?_);refine WC.no rfl ?_;refine WC.skip (WQ.then (hK3 _ _ _ (WC.seq fun K6 hK6=>WC.seq fun K7 hK7=>WC.region (WL.z (vI 0) 5 (WL.k hK7 (WC.block ?_))))));refine WC.loop (fun kk0 ll0 ww0=>∃ (i:Nat),ll0=[(0,.slice p t.length cp),(1,.slice p2 u.length cp2),(5,vI (i:Int))]∧kk0=t.length-i∧(i≤t.length)∧(∀ j,j<i→lnT t j=lnT u j∧agT t j=agT u j)∧HP Tr w ww0 []) (t.length) [(0,.slice p t.length cp),(1,.slice p2 u.length cp2),(5,vI 0)] ⟨rfl,rfl,rfl,trivial⟩ ⟨0,rfl,rfl,Nat.zero_le _,fun j hj=>by omega,hH1⟩ ?_;rintro kk l w9 ⟨i,rfl,hkk,hi,hall,hH10⟩ K8 hK8;refine WC.seq fun K11 hK11=>WC.seq fun K12 hK12=>WC.region (WL.z (vI (i:Int)) 11 (WL.z (.slice p t.length cp) 12 (WL.z (vI (t.length:Int)) 13 ?_)));by_cases hlt:(i:Int)<(t.length:Int)
  ·
   refine WL.y (.bool true) 14 (x_lss rfl rfl rfl (dT (hlt))) (WL.k hK12 ?_);refine WC.yes rfl ?_;refine WC.skip (WQ.then (hK11 _ _ _ (WC.seq fun K13 hK13=>WC.block (WC.seq fun K14 hK14=>?_))));obtain⟨g,o,rfl,hrow⟩:=hT (by omega);obtain⟨g2,o2,rfl,hrow2⟩:=hU (by omega);refine WC.still (by kernel_rfl) (by kernel_rfl) ?_;have hH15:=HP.drew hH10;refine WS.z (.slice (some ⟨g,o,none⟩) t.length cp) 17 (WS.z (vI (i:Int)) 18 (WS.y (vP g (o+i*2)) 19 (x_ix (i) (o+i*2) Tryz.underlying63 sz67) (WS.y (.agg #[vI (lnT t i),vI (agT t i)]) 20 (x_loadS (cs:=[vI (lnT t i),vI (agT t i)]) rfl rfl Tryz.underlying67 rfl sz67 (HP.oldRange hH15 trivial (hrow i (by omega)))) (WS.z (.slice (some ⟨g2,o2,none⟩) u.length cp2) 21 (WS.z (vI (i:Int)) 22 (WS.y (vP g2 (o2+i*2)) 23 (x_ix (i) (o2+i*2) Tryz.underlying63 sz67) (WS.y (.agg #[vI (lnT u i),vI (agT u i)]) 24 (x_loadS (cs:=[vI (lnT u i),vI (agT u i)]) rfl rfl Tryz.underlying67 rfl sz67 (HP.oldRange hH15 trivial (hrow2 i (by omega)))) ?_)))))));by_cases hq:lnT t i=lnT u i∧agT t i=agT u i
   ·
    refine WS.y (.bool false) 25 (x_neqA rfl rfl rfl (by kernel_rfl) (eqTg _ _ _ _ _) (by rw [decide_eq_true hq];rfl)) (WS.nilQ (WQ.then (hK14 _ _ _ (WC.sb [(0,.slice (some ⟨g,o,none⟩) t.length cp),(1,.slice (some ⟨g2,o2,none⟩) u.length cp2),(5,vI (i:Int)),(14,.bool true),(25,.bool false)] ?_))));refine WC.no rfl ?_;refine WC.skip (WQ.inNormal (WQ.then (hK13 _ _ _ (WC.region (WL.z (vI (i:Int)) 15 (WL.y (vI ((i+1:Nat):Int)) 16 (x_ad (((i+1:Nat):Int))) (WL.z (vI ((i+1:Nat):Int)) 5 (WL.nil (WQ.sb [(0,.slice (some ⟨g,o,none⟩) t.length cp),(1,.slice (some ⟨g2,o2,none⟩) u.length cp2),(5,vI ((i+1:Nat):Int))] ?_)))))))));refine WQ.then (hK8 _ _ _ (by omega) ⟨i+1,rfl,rfl,by omega,fun j hj=>by
          by_cases q9:j=i
          · subst q9;exact hq
          · exact hall j (by omega),hH15⟩)
   ·
    refine WS.y (.bool true) 25 (x_neqA rfl rfl rfl (by kernel_rfl) (eqTg _ _ _ _ _) (by rw [decide_eq_false hq];rfl)) (WS.nilQ (WQ.then (hK14 _ _ _ (WC.sb [(0,.slice (some ⟨g,o,none⟩) t.length cp),(1,.slice (some ⟨g2,o2,none⟩) u.length cp2),(5,vI (i:Int)),(14,.bool true),(25,.bool true)] ?_))));refine WC.yes rfl ?_;refine WC.seq fun K16 hK16=>WC.region (WL.z (.bool false) 4 (WL.k hK16 (WC.ret ?_)));refine WQ.inRet ?_;refine WQ.thenRet ?_;refine WQ.thenRet ?_;refine WQ.inRet ?_;refine WQ.thenRet ?_;refine WQ.ret1 4 rfl rfl ?_;exact⟨by rw [decide_eq_false (fun e=>hq (by subst e;exact⟨rfl,rfl⟩))],HP.below hH15⟩
  ·
   refine WL.y (.bool false) 14 (x_lss rfl rfl rfl (dF (hlt))) (WL.k hK12 ?_);refine WC.no rfl ?_;refine WC.exit (WQ.thenExit (WQ.thenExit (WQ.inExit (WQ.then (hK6 _ _ _ (WC.seq fun K17 hK17=>WC.region (WL.z (.bool true) 4 (WL.k hK17 ?_))))))));refine WC.ret ?_;refine WQ.ret1 4 rfl rfl ?_;exact⟨by rw [decide_eq_true (tab_eq (by omega) fun j hj=>hall j (by omega))],HP.below hH10⟩
theorem caught_any (i:Int) (r r2:Value) (w:World) :
    Calls Tryz.prog 35 #[vI i,r,r2] w fun e w'=>e=.returned r∧w=w':=by
  refine calls_of Tryz.func35 rfl (m:=8) rfl [(0,vI i),(1,r),(2,r2)] (Fr_enter [vI i,r,r2] 8 (Nat.le_of_ble_eq_true rfl)) ?_;have hH1:HP Tr w w []:=HP.refl w;refine WC.seq fun K2 hK2=>WC.region (WL.z (.slice none 0 0) 6 (WL.k hK2 (WC.seq fun K3 hK3=>WC.region (WL.z r 7 (WL.z r 6 (WL.nil (WQ.then ?_)))))));refine hK3 _ _ _ (WC.ret ?_);refine WQ.ret1 6 rfl rfl ?_;exact⟨rfl,rfl⟩
end Ca
end Go.Proofs.YtmjnakhpekbenaaGreat
namespace Go.Proofs.YtmjnakhpekbenaaGreat
set_option maxRecDepth 20000
set_option maxHeartbeats 4000000
open Go.RowKit Fw
namespace Ca
theorem BEq_at {P:Program} {f:Nat} {args:Array Value} {w:World} {q:Bool} {r:Bool} (hr:q=r) (h:Calls P f args w fun e w'=>e=.returned (.bool q)∧Below w.heap.size w w'):Calls P f args w fun e w'=>e=.returned (.bool r)∧Below w.heap.size w w':=hr ▸ h
theorem aR_up {n i:Nat} {A:Nat→TbI} {r:TbI} (h:i<n):(aR n (upA A i r))[i]?=some (tbV r):=by
  rw [aR_get h];unfold upA;rw [if_pos rfl]
theorem tb_store {s y l m:Int} {w:World} {g n i:Nat} {A:Nat→TbI} {v:Value} {r:TbI} (h:TbOk s y l m w r) (hg:Ent.holds w (.cel g (aR n A) 64)):TbOk s y l m (w.setCell ⟨g,i,none⟩ v) r:=⟨fun h0=>by
    obtain⟨b,o,hq,hr⟩:=h.inn h0;have hne:b≠g:=fun e=>by
      subst e;have hc:=hr 0 h0 0 _ rfl;have h2:w.heap[b]?=some (.cells (aR n A) 64 (0,0)):=hg;rw [cell_of_row w b _ _ 64 (0,0) h2] at hc;obtain⟨r9,hr9⟩:=aR_in hc;cases hr9
    refine⟨b,o,hq,fun i9 hi9 j u hu=>?_⟩;have hc:=hr i9 hi9 j u hu;exact(World.cell?_of_block (a:=⟨b,o+i9*2+j,none⟩) (heap_setCell_other w ⟨g,i,none⟩ b v hne)).trans hc,h.ok⟩
theorem iter_stop {O:Fl.Ops (List T2)} {f:List T2→(Nat→List T2)→List T2 × (Nat→List T2)} {t:List T2} {ah:Nat→List T2} (h:O.J t (f t ah).1=t):∀ k,Fl.iter O f k t ah=f t ah
  | 0=>rfl
  | k+1=>by rw [Fl.iter,if_pos h]
theorem iter_go {O:Fl.Ops (List T2)} {f:List T2→(Nat→List T2)→List T2 × (Nat→List T2)} {t:List T2} {ah:Nat→List T2} {k:Nat} (h:¬ O.J t (f t ah).1=t):Fl.iter O f (k+1) t ah=Fl.iter O f k (O.J t (f t ah).1) (f t ah).2:=by
  rw [Fl.iter,if_neg h]
theorem fold_step {O:Fl.Ops (List T2)} {ah:Nat→List T2} {a v:Nat} {x:List T2} (h:v<a):Fl.fold O ah v (a-v) x=Fl.fold O ah (v+1) (a-(v+1)) (O.J x (O.F v (ah v))):=by
  obtain⟨k,hk⟩:∃ k,a-v=k+1:=⟨a-v-1,by omega⟩;rw [hk,show a-(v+1)=k by omega,Fl.fold]
theorem fold_end {O:Fl.Ops (List T2)} {ah:Nat→List T2} {a v:Nat} {x:List T2} (h:a≤v):Fl.fold O ah v (a-v) x=x:=by
  rw [show a-v=0 by omega,Fl.fold]
theorem lastK_any (K:Bool) (s y l m:Int) (pb:Nat) (cq:Option Addr) (n cap b6 b4 ga:Nat) (c A B:Nat→Int) (hg0:vG s y l m=true) (hn9:n≤400) (k j:Nat) (R9:Fl.Tr) (hl:∀ (w:World) (T:Nat→TbI) (r:TbI),Env s y l m pb cq n cap b6 b4 (fhK K) (fjK K) ga c A B w T→TbOk s y l m w r→(∀ i,TbOk s y l m w (T i))→Calls Tryz.prog 61 #[vP pb 0,vI (k:Int),vI (j:Int),tbV r] w (TabR s y l m pb cq n cap b6 b4 (fjK K) ga T (Fl.sol (opsK K s y l) (cdOf c n) R9 r.t (tabs T)) w)) (hjn:j<n) (w:World) (T:Nat→TbI) (r:TbI) (hE:Env s y l m pb cq n cap b6 b4 (fhK K) (fjK K) ga c A B w T) (hr:TbOk s y l m w r) (hT:∀ i,TbOk s y l m w (T i)) :
  Calls Tryz.prog 96 #[vP pb 0,vI (k:Int),vI (j:Int),.slice r.q r.t.length r.c] w (TabR s y l m pb cq n cap b6 b4 (fjK K) ga T (Fl.last (opsK K s y l) (Fl.sol (opsK K s y l) (cdOf c n) R9) j r.t (tabs T)) w):=by
 refine calls_of Tryz.func96 rfl (m:=28) rfl [(0,vP pb 0),(1,vI (k:Int)),(2,vI (j:Int)),(3,.slice r.q r.t.length r.c)] (Fr_enter [vP pb 0,vI (k:Int),vI (j:Int),.slice r.q r.t.length r.c] 28 (Nat.le_of_ble_eq_true rfl)) ?_;have hM0:HP (Out [pE pb cq n cap b6 b4 (fjK K) ga,aE ga n T]) w w [pE pb cq n cap b6 b4 (fjK K) ga,aE ga n T]:=HP.startB hE.own;refine WC.seq fun K1 hK1=>WC.region (WL.z (.slice none 0 0) 8 (WL.k hK1 (WC.seq fun K2 hK2=>WC.region (WL.z (vP pb 0) 9 (WL.z (vI (k:Int)) 10 (WL.z (vI (j:Int)) 11 (WL.z (.slice r.q r.t.length r.c) 12 ?_)))))));refine WL.c 61 #[vP pb 0,vI (k:Int),vI (j:Int),.slice r.q r.t.length r.c] 13 ?_;refine(hl _ T _ (hE.keep (HP.startB hE.own)) (hE.tab hr (HP.startB hE.own)) (fun i9=>hE.tab (hT i9) (HP.startB hE.own))).mono ?_;rintro e w3 ⟨r1,T1,rfl,hbw3,hr1,hT1,hXr1⟩;refine⟨_,rfl,?_⟩;have hH4:HP (Out [pE pb cq n cap b6 b4 (fjK K) ga,aE ga n T]) w w3 [.cel pb #[.slice cq n cap,.func (.func 33) #[] #[vP b6 0,vP b4 0],.func (.func (fjK K)) #[] #[],.func (.func 34) #[] #[],.func (.func 35) #[] #[],vS ga n n] 71,.cel ga (aR n T1) 64]:=HP.exchF (A:=[pE pb cq n cap b6 b4 (fjK K) ga,aE ga n T]) (B:=[]) (HP.startB hE.own) hbw3;have hF5:HP (Out [pE pb cq n cap b6 b4 (fjK K) ga,aE ga n T]) w w3 [pE pb cq n cap b6 b4 (fjK K) ga,aE ga n T1]:=hH4;have hM5:=HP.exch (A:=[]) hM0 hF5;have hE5:=hE.keep hF5;have hk5_r:=hE.tab hr hF5;have hH6:=HP.startB hE5.own;refine WL.z (.slice r1.q r1.t.length r1.c) 3 (WL.k hK2 (WC.sb [(0,vP pb 0),(1,vI (k:Int)),(2,vI (j:Int)),(3,.slice r1.q r1.t.length r1.c),(8,.slice none 0 0)] (WC.seq fun K7 hK7=>WC.region (WL.z (vP pb 0) 14 (WL.z (vP pb 0) 15 (WL.z (vP pb 5) 16 (WL.y (vS ga n n) 17 (x_load rfl rfl Tryz.underlying69 rfl (HP.cell hH6 0 rfl rfl)) (WL.z (vI (j:Int)) 18 ?_))))))));refine WL.z (.slice r1.q r1.t.length r1.c) 19 (WL.y (vP ga j) 20 (x_ix (j) (j) Tryz.underlying69 sz64) ?_)
 refine WL.store (c':=aR n (upA T1 j r1)) (H2:=_) 1 hH6 rfl rfl rfl rfl rfl rfl sz64 rfl (by rw [aR_size];omega) (aR_set n j T1 r1) rfl ?_;intro w8 hBw8;have hH9:HP (Out [pE pb cq n cap b6 b4 (fjK K) ga,aE ga n T1]) w3 w8 [.cel pb #[.slice cq n cap,.func (.func 33) #[] #[vP b6 0,vP b4 0],.func (.func (fjK K)) #[] #[],.func (.func 34) #[] #[],.func (.func 35) #[] #[],vS ga n n] 71,.cel ga (aR n (upA T1 j r1)) 64]:=hBw8;have hUw8:∀ i9,TbOk s y l m w8 ((upA T1 j r1) i9):=fun i9=>by unfold upA;split;exact(hE5.tab hr1 hH9);exact hE5.tab (hT1 i9) hH9
 have hF10:HP (Out [pE pb cq n cap b6 b4 (fjK K) ga,aE ga n T1]) w3 w8 [pE pb cq n cap b6 b4 (fjK K) ga,aE ga n (upA T1 j r1)]:=hH9;have hM10:=HP.exch (A:=[]) hM5 hF10;have hE10:=hE5.keep hF10;have hk10_r:=hE5.tab hk5_r hF10;have hk10_r1:=hE5.tab hr1 hF10;have hH11:=HP.startB hE10.own;refine WL.k hK7 (WC.sb [(0,vP pb 0),(1,vI (k:Int)),(2,vI (j:Int)),(3,.slice r1.q r1.t.length r1.c),(8,.slice none 0 0)] (WC.seq fun K12 hK12=>WC.region (WL.z (vP pb 0) 21 (WL.z (vP pb 0) 22 (WL.z (vP pb 1) 23 (WL.y (.func (.func 33) #[] #[vP b6 0,vP b4 0]) 24 (x_load rfl rfl Tryz.underlying65 rfl (HP.cell hH11 0 rfl rfl)) (WL.z (vI (j:Int)) 25 (WL.z (.slice r1.q r1.t.length r1.c) 26 ?_))))))));refine WL.c 33 #[vI (j:Int),.slice r1.q r1.t.length r1.c,vP b6 0,vP b4 0] 27 ?_;refine(doK_any K s y l m j r1.q r1.t r1.c b6 b4 _ (hE10.keep hH11).how (hE10.keep hH11).geo (hE10.tab hk10_r1 hH11).inn hk10_r1.ok (by omega)).mono ?_;rintro e w13 ⟨pv9,cp9,rfl,hbw13⟩;refine⟨_,rfl,?_⟩;have hH14:HP (Out [pE pb cq n cap b6 b4 (fjK K) ga,aE ga n (upA T1 j r1)]) w8 w13 [.cel pb #[.slice cq n cap,.func (.func 33) #[] #[vP b6 0,vP b4 0],.func (.func (fjK K)) #[] #[],.func (.func 34) #[] #[],.func (.func 35) #[] #[],vS ga n n] 71,.cel ga (aR n (upA T1 j r1)) 64,rowT pv9 (tcH s y ((j:Int)/l) (kK K) r1.t).length cp9 (tcH s y ((j:Int)/l) (kK K) r1.t)]:=HP.trans hH11 hbw13;have hrd:TbOk s y l m w13 (⟨pv9,(tcH s y ((j:Int)/l) (kK K) r1.t),cp9⟩:TbI):=⟨InT.own (HP.get hH14 2 rfl),VT_tc hk10_r1.ok (line_of (vG_iff.1 hg0).2.2.1 (by omega))⟩;have hF15:HP (Out [pE pb cq n cap b6 b4 (fjK K) ga,aE ga n (upA T1 j r1)]) w8 w13 [pE pb cq n cap b6 b4 (fjK K) ga,aE ga n (upA T1 j r1)]:=(HP.drop hH14 2);have hM15:=HP.exch (A:=[]) hM10 hF15;have hE15:=hE10.keep hF15;have hk15_r:=hE10.tab hk10_r hF15;have hk15_r1:=hE10.tab hk10_r1 hF15
 have hT15:=fun i9=>hE10.tab (hUw8 i9) hF15;have hH16:=HP.startB hE15.own;refine WL.z (.slice pv9 ((tcH s y ((j:Int)/l) (kK K) r1.t).length) cp9) 8 (WL.k hK12 (WC.sb [(0,vP pb 0),(1,vI (k:Int)),(2,vI (j:Int)),(3,.slice r1.q r1.t.length r1.c),(8,.slice pv9 ((tcH s y ((j:Int)/l) (kK K) r1.t).length) cp9)] (WC.ret ?_)));refine WQ.ret1 8 rfl rfl ?_;refine⟨⟨pv9,(tcH s y ((j:Int)/l) (kK K) r1.t),cp9⟩,upA T1 j r1,rfl,hM15,hrd,hT15,?_⟩;rw [tabs_up];unfold Fl.last;rw [← hXr1]
 rfl
theorem brPK_any (K:Bool) (s y l m:Int) (pb:Nat) (cq:Option Addr) (n cap b6 b4 ga:Nat) (c A B:Nat→Int) (hg0:vG s y l m=true) (hn9:n≤400) (i E:Nat) (Rb:Fl.Tr) (hop:29≤c i∧c i≤32) (hiE:i+1≤E) (hEn:E<n) (hlb:∀ (w:World) (T:Nat→TbI) (r:TbI),Env s y l m pb cq n cap b6 b4 (fhK K) (fjK K) ga c A B w T→TbOk s y l m w r→(∀ i,TbOk s y l m w (T i))→Calls Tryz.prog 61 #[vP pb 0,vI ((i+1:Nat):Int),vI (E:Int),tbV r] w (TabR s y l m pb cq n cap b6 b4 (fjK K) ga T (Fl.sol (opsK K s y l) (cdOf c n) Rb r.t (tabs T)) w)) (w:World) (T:Nat→TbI) (r:TbI) (hE:Env s y l m pb cq n cap b6 b4 (fhK K) (fjK K) ga c A B w T) (hr:TbOk s y l m w r) (hT:∀ i,TbOk s y l m w (T i)) :
  Calls Tryz.prog 88 #[vP pb 0,vI (i:Int),vI (-1),vI (E:Int),.slice r.q r.t.length r.c] w (TabR s y l m pb cq n cap b6 b4 (fjK K) ga T (brkP (opsK K s y l) (cdOf c n) i E (Fl.sol (opsK K s y l) (cdOf c n) Rb) r.t (tabs T)) w):=by
 refine calls_of Tryz.func88 rfl (m:=170) rfl [(0,vP pb 0),(1,vI (i:Int)),(2,vI (-1)),(3,vI (E:Int)),(4,.slice r.q r.t.length r.c)] (Fr_enter [vP pb 0,vI (i:Int),vI (-1),vI (E:Int),.slice r.q r.t.length r.c] 170 (Nat.le_of_ble_eq_true rfl)) ?_;have hM0:HP (Out [pE pb cq n cap b6 b4 (fjK K) ga,aE ga n T]) w w [pE pb cq n cap b6 b4 (fjK K) ga,aE ga n T]:=HP.startB hE.own;refine WC.seq fun K1 hK1=>WC.region (WL.z (.slice none 0 0) 10 (WL.k hK1 (WC.seq fun K2 hK2=>WC.seq fun K3 hK3=>?_)));obtain⟨gc,oc,hqc,hrowc⟩:=hE.code (by omega);have hgc9:=out_int hE.own (hrowc i (by omega) 0 _ rfl);refine WC.region (WL.z (vP pb 0) 18 (WL.z (vP pb 0) 19 (WL.z (vP pb 0) 20 (WL.y (.slice cq n cap) 21 (x_load rfl rfl Tryz.underlying24 rfl (HP.cell (HP.startB hE.own) 0 rfl rfl)) (WL.z (vI (i:Int)) 22 (WL.y (vP gc (oc+i*3)) 23 (x_idx (b:=gc) (off:=oc) i (oc+i*3) rfl (by rw [← hqc];rfl) rfl Tryz.underlying24 sz51 (by omega) (by omega) (by omega)) (WL.z (vP gc (oc+i*3)) 24 (WL.y (vI (c i)) 25 (x_load rfl rfl Tryz.underlying3 rfl ((HP.oldRange (HP.startB hE.own) hgc9 (hrowc i (by omega))) 0 _ rfl)) (WL.k hK3 ?_)))))))));refine WC.sb [(0,vP pb 0),(1,vI (i:Int)),(2,vI (-1)),(3,vI (E:Int)),(4,.slice r.q r.t.length r.c),(10,.slice none 0 0),(25,vI (c i))] (WC.block (WC.seq fun K4 hK4=>WC.region ?_));by_cases h29:c i=29
 ·
  refine WL.y (.bool true) 27 (x_eql rfl rfl rfl (dT (h29))) (WL.z (.bool true) 26 (WL.k hK4 ?_));refine WC.yes rfl ?_;refine WC.seq fun K5 hK5=>WC.seq fun K6 hK6=>WC.region (WL.z (vI (-1)) 28 (WL.y (.bool false) 29 (x_geq rfl rfl rfl (by decide)) (WL.k hK6 ?_)));refine WC.no rfl ?_;refine WC.skip (WQ.then (hK5 _ _ _ (WC.seq fun K7 hK7=>?_)));refine WC.confG (γ:=TbI × (Nat→TbI) × Option Addr × Nat × Unit) [(29,.bool false),(28,vI (-1)),(26,.bool true),(27,.bool true),(0,vP pb 0),(1,vI (i:Int)),(2,vI (-1)),(3,vI (E:Int)),(4,.slice r.q r.t.length r.c),(10,.slice none 0 0),(25,vI (c i))] (fun gy=>[vP pb 0,vP pb 0,vP pb 5,vS ga n n,vI (E:Int),vP pb 0,vP pb 0,vP pb 2,.func (.func (fjK K)) #[] #[],.slice r.q r.t.length r.c,vP pb 0,vI (i:Int),vI ((i+1:Nat):Int),vI (E:Int),.slice r.q r.t.length r.c,.slice gy.1.q gy.1.t.length gy.1.c,.slice gy.2.2.1 ((jK K r.t gy.1.t).length) gy.2.2.2.1,vP ga E,undef]) (fun gy D wz=>HP (Out [pE pb cq n cap b6 b4 (fjK K) ga,aE ga n T]) w wz ([.cel pb #[.slice cq n cap,.func (.func 33) #[] #[vP b6 0,vP b4 0],.func (.func (fjK K)) #[] #[],.func (.func 34) #[] #[],.func (.func 35) #[] #[],vS ga n n] 71,(bif D 18 then Ent.cel ga (aR n (upA gy.2.1 E (⟨gy.2.2.1,(jK K r.t gy.1.t),gy.2.2.2.1⟩:TbI))) 64 else (bif D 15 then Ent.cel ga (aR n gy.2.1) 64 else Ent.cel ga (aR n T) 64))]++((bif D 16 then [rowT gy.2.2.1 (jK K r.t gy.1.t).length gy.2.2.2.1 (jK K r.t gy.1.t)] else [])++[]))∧(D 15=true→(TbOk s y l m wz gy.1∧(∀ i9,TbOk s y l m wz (gy.2.1 i9))∧(gy.1.t,tabs gy.2.1)=Fl.sol (opsK K s y l) (cdOf c n) Rb r.t (tabs T)))) (⟨none,[],0⟩,(fun _=>⟨none,[],0⟩),none,0,()) (by kernel_rfl) ⟨rfl,rfl,rfl,rfl,rfl,rfl,rfl,rfl,rfl,rfl,rfl,trivial⟩ (by kernel_rfl) (by kernel_rfl) (by kernel_rfl) (fun _=>rfl) (by kernel_rfl) (⟨HP.drew (HP.startB hE.own),(fun h=>by cases h)⟩) ?_ ?_
  ·
   refine AllOk.cons ?o0 (AllOk.cons ?o1 (AllOk.cons ?o2 (AllOk.cons ?o3 (AllOk.cons ?o4 (AllOk.cons ?o5 (AllOk.cons ?o6 (AllOk.cons ?o7 (AllOk.cons ?o8 (AllOk.cons ?o9 (AllOk.cons ?o10 (AllOk.cons ?o11 (AllOk.cons ?o12 (AllOk.cons ?o13 (AllOk.cons ?o14 (AllOk.cons ?o15 (AllOk.cons ?o16 (AllOk.cons ?o17 (AllOk.cons ?o18 (AllOk.nil _)))))))))))))))))))
   case o0 =>
    rintro gy D wz hDi hdep hclo ⟨hW,hX0⟩;exact cfv gy wz (by kernel_rfl) ⟨hW,hX0⟩
   case o1 =>
    rintro gy D wz hDi hdep hclo ⟨hW,hX0⟩;exact cfv gy wz (by kernel_rfl) ⟨hW,hX0⟩
   case o2 =>
    rintro gy D wz hDi hdep hclo ⟨hW,hX0⟩;exact cfv gy wz (by kernel_rfl) ⟨hW,hX0⟩
   case o3 =>
    rintro gy D wz hDi hdep hclo ⟨hW,hX0⟩;exact cfv gy wz (x_load rfl rfl Tryz.underlying69 rfl (HP.cell hW 0 rfl rfl)) ⟨hW,hX0⟩
   case o4 =>
    rintro gy D wz hDi hdep hclo ⟨hW,hX0⟩;exact cfv gy wz (by kernel_rfl) ⟨hW,hX0⟩
   case o5 =>
    rintro gy D wz hDi hdep hclo ⟨hW,hX0⟩;exact cfv gy wz (by kernel_rfl) ⟨hW,hX0⟩
   case o6 =>
    rintro gy D wz hDi hdep hclo ⟨hW,hX0⟩;exact cfv gy wz (by kernel_rfl) ⟨hW,hX0⟩
   case o7 =>
    rintro gy D wz hDi hdep hclo ⟨hW,hX0⟩;exact cfv gy wz (by kernel_rfl) ⟨hW,hX0⟩
   case o8 =>
    rintro gy D wz hDi hdep hclo ⟨hW,hX0⟩;exact cfv gy wz (x_load rfl rfl Tryz.underlying45 rfl (HP.cell hW 0 rfl rfl)) ⟨hW,hX0⟩
   case o9 =>
    rintro gy D wz hDi hdep hclo ⟨hW,hX0⟩;exact cfv gy wz (by kernel_rfl) ⟨hW,hX0⟩
   case o10 =>
    rintro gy D wz hDi hdep hclo ⟨hW,hX0⟩;exact cfv gy wz (by kernel_rfl) ⟨hW,hX0⟩
   case o11 =>
    rintro gy D wz hDi hdep hclo ⟨hW,hX0⟩;exact cfv gy wz (by kernel_rfl) ⟨hW,hX0⟩
   case o12 =>
    rintro gy D wz hDi hdep hclo ⟨hW,hX0⟩;exact cfv gy wz (x_ad (((i+1:Nat):Int))) ⟨hW,hX0⟩
   case o13 =>
    rintro gy D wz hDi hdep hclo ⟨hW,hX0⟩;exact cfv gy wz (by kernel_rfl) ⟨hW,hX0⟩
   case o14 =>
    rintro gy D wz hDi hdep hclo ⟨hW,hX0⟩;exact cfv gy wz (by kernel_rfl) ⟨hW,hX0⟩
   case o15 =>
    rintro gy D wz hDi hdep hclo ⟨hW,hX0⟩;have d16:D 16=false:=by
     cases h:D 16 with
     | false=>rfl
     | true=>exact absurd (hclo 16 _ rfl h ⟨15,.data⟩ (by simp) rfl) (by rw [hDi];exact Bool.false_ne_true)
    have d18:D 18=false:=by
     cases h:D 18 with
     | false=>rfl
     | true=>exact absurd (hclo 18 _ rfl h ⟨15,.phase⟩ (by simp) rfl) (by rw [hDi];exact Bool.false_ne_true)
    have hW2:=hW
    try simp only [d16,d18,hDi,cond_true,cond_false,List.append_nil,List.nil_append,List.cons_append] at hW2
    refine .inl ⟨rfl,rfl,.inr (.inr ⟨61,#[vP pb 0,vI ((i+1:Nat):Int),vI (E:Int),.slice r.q r.t.length r.c],by kernel_rfl,(hlb _ T _ (hE.keep hW2) (hE.tab hr hW2) (fun i9=>hE.tab (hT i9) hW2)).mono ?_⟩)⟩;rintro e w3 ⟨r2,T2,rfl,hb9,hr9,hT9,hX9⟩;have hA:=HP.exchF (A:=[pE pb cq n cap b6 b4 (fjK K) ga,aE ga n T]) (B:=[]) hW2 hb9;refine⟨⟨r2,T2,gy.2.2.1,gy.2.2.2.1,()⟩,fun j hj=>?_,rfl,⟨?_,fun _=>⟨hr9,hT9,hX9⟩⟩⟩
    ·
     match j,hj with
     | 0,hj=>rfl
     | 1,hj=>rfl
     | 2,hj=>rfl
     | 3,hj=>rfl
     | 4,hj=>rfl
     | 5,hj=>rfl
     | 6,hj=>rfl
     | 7,hj=>rfl
     | 8,hj=>rfl
     | 9,hj=>rfl
     | 10,hj=>rfl
     | 11,hj=>rfl
     | 12,hj=>rfl
     | 13,hj=>rfl
     | 14,hj=>rfl
     | 15,hj=>rw [hDi] at hj;cases hj
     | 16,hj=>exact absurd hj (by rw [d16];exact Bool.false_ne_true)
     | 17,hj=>rfl
     | 18,hj=>rfl
     | j+19,_=>rfl
    ·
     show HP (Out [pE pb cq n cap b6 b4 (fjK K) ga,aE ga n T]) w w3 ([.cel pb #[.slice cq n cap,.func (.func 33) #[] #[vP b6 0,vP b4 0],.func (.func (fjK K)) #[] #[],.func (.func 34) #[] #[],.func (.func 35) #[] #[],vS ga n n] 71,(bif D 18 then Ent.cel ga (aR n (upA T2 E (⟨gy.2.2.1,(jK K r.t r2.t),gy.2.2.2.1⟩:TbI))) 64 else Ent.cel ga (aR n T2) 64)]++((bif D 16 then [rowT gy.2.2.1 (jK K r.t r2.t).length gy.2.2.2.1 (jK K r.t r2.t)] else [])++[]))
     try simp only [d16,d18,cond_true,cond_false,List.append_nil,List.nil_append,List.cons_append]
     exact hA
   case o16 =>
    rintro gy D wz hDi hdep hclo ⟨hW,hX0⟩;have d15:D 15=true:=hdep ⟨15,.data⟩ (by simp) rfl;have d18:D 18=false:=by
     cases h:D 18 with
     | false=>rfl
     | true=>exact absurd (hclo 18 _ rfl h ⟨16,.data⟩ (by simp) rfl) (by rw [hDi];exact Bool.false_ne_true)
    have hW2:=hW
    try simp only [d15,d18,hDi,cond_true,cond_false,List.append_nil,List.nil_append,List.cons_append] at hW2
    refine .inl ⟨rfl,rfl,.inr (.inr ⟨(fjK K),#[.slice r.q r.t.length r.c,.slice gy.1.q gy.1.t.length gy.1.c],by cases K <;> kernel_rfl,(joinK_any K r.q gy.1.q r.t gy.1.t r.c gy.1.c _ (hE.tab hr hW2).inn (hX0 d15).1.inn (by have:=(hE.tab hr hW2).ok.len;omega) (by have:=(hX0 d15).1.ok.len;omega) (hE.tab hr hW2).ok.so (hX0 d15).1.ok.so).mono ?_⟩)⟩;rintro e w3 ⟨pvj,cpj,rfl,hbj⟩;have hA:=HP.trans hW2 hbj;refine⟨⟨gy.1,gy.2.1,pvj,cpj,()⟩,fun j hj=>?_,rfl,⟨?_,fun h9=>⟨(hX0 h9).1.below (HP.below hbj),(fun i9=>((hX0 h9).2.1 i9).below (HP.below hbj)),(hX0 h9).2.2⟩⟩⟩
    ·
     match j,hj with
     | 0,hj=>rfl
     | 1,hj=>rfl
     | 2,hj=>rfl
     | 3,hj=>rfl
     | 4,hj=>rfl
     | 5,hj=>rfl
     | 6,hj=>rfl
     | 7,hj=>rfl
     | 8,hj=>rfl
     | 9,hj=>rfl
     | 10,hj=>rfl
     | 11,hj=>rfl
     | 12,hj=>rfl
     | 13,hj=>rfl
     | 14,hj=>rfl
     | 15,hj=>rfl
     | 16,hj=>rw [hDi] at hj;cases hj
     | 17,hj=>rfl
     | 18,hj=>rfl
     | j+19,_=>rfl
    ·
     show HP (Out [pE pb cq n cap b6 b4 (fjK K) ga,aE ga n T]) w w3 ([.cel pb #[.slice cq n cap,.func (.func 33) #[] #[vP b6 0,vP b4 0],.func (.func (fjK K)) #[] #[],.func (.func 34) #[] #[],.func (.func 35) #[] #[],vS ga n n] 71,(bif D 18 then Ent.cel ga (aR n (upA gy.2.1 E (⟨pvj,(jK K r.t gy.1.t),cpj⟩:TbI))) 64 else (bif D 15 then Ent.cel ga (aR n gy.2.1) 64 else Ent.cel ga (aR n T) 64))]++([rowT pvj (jK K r.t gy.1.t).length cpj (jK K r.t gy.1.t)]++[]))
     try simp only [d15,d18,cond_true,cond_false,List.append_nil,List.nil_append,List.cons_append]
     exact hA
   case o17 =>
    rintro gy D wz hDi hdep hclo ⟨hW,hX0⟩;exact cfv gy wz (x_ix (E) (E) Tryz.underlying69 sz64) ⟨hW,hX0⟩
   case o18 =>
    rintro gy D wz hDi hdep hclo ⟨hW,hX0⟩;have d15:D 15=true:=hdep ⟨15,.phase⟩ (by simp) rfl;have d16:D 16=true:=hdep ⟨16,.data⟩ (by simp) rfl;have hW2:=hW;simp only [d15,d16,hDi,cond_true,cond_false,List.append_nil,List.nil_append,List.cons_append] at hW2;have h4:=HP.set (off:=E) (v:=tbV (⟨gy.2.2.1,(jK K r.t gy.1.t),gy.2.2.2.1⟩:TbI)) hW2 1 rfl;rw [aR_set] at h4;refine .inl ⟨rfl,rfl,.inr (.inl ⟨_,x_store rfl rfl rfl sz64 rfl (HP.cell hW2 1 rfl (aR_get (by omega))) (HP.free hW2 1 rfl),rfl,?_,fun h9=>⟨tb_store (hX0 h9).1 (HP.get hW2 1 rfl),(fun i9=>tb_store ((hX0 h9).2.1 i9) (HP.get hW2 1 rfl)),(hX0 h9).2.2⟩⟩)⟩;show HP (Out [pE pb cq n cap b6 b4 (fjK K) ga,aE ga n T]) w (wz.setCell ⟨ga,E,none⟩ (tbV (⟨gy.2.2.1,(jK K r.t gy.1.t),gy.2.2.2.1⟩:TbI))) ([.cel pb #[.slice cq n cap,.func (.func 33) #[] #[vP b6 0,vP b4 0],.func (.func (fjK K)) #[] #[],.func (.func 34) #[] #[],.func (.func 35) #[] #[],vS ga n n] 71,Ent.cel ga (aR n (upA gy.2.1 E (⟨gy.2.2.1,(jK K r.t gy.1.t),gy.2.2.2.1⟩:TbI))) 64]++((bif D 16 then [rowT gy.2.2.1 (jK K r.t gy.1.t).length gy.2.2.2.1 (jK K r.t gy.1.t)] else [])++[]));simp only [d15,d16,cond_true,cond_false,List.append_nil,List.nil_append,List.cons_append];exact h4
  rintro ⟨r2,T2,pvj,cpj,gu⟩ D w8 hall ⟨hH9,hX0⟩;have hOr2:=hX0 (hall 15 (by kernel_rfl));clear hX0;simp only [hall 15 (by kernel_rfl),hall 16 (by kernel_rfl),hall 18 (by kernel_rfl),cond_true,List.append_nil,List.nil_append,List.cons_append] at hH9;clear hall;refine WQ.sb [(0,vP pb 0),(1,vI (i:Int)),(2,vI (-1)),(3,vI (E:Int)),(4,.slice r.q r.t.length r.c),(10,.slice none 0 0),(25,vI (c i)),(26,.bool true),(29,.bool false)] ?_;obtain⟨hr2,hT2,hXr2⟩:=hOr2;have hjok:VT s y l m (jK K r.t r2.t):=VT_jK K hr.ok hr2.ok;have hjn:TbOk s y l m w8 (⟨pvj,(jK K r.t r2.t),cpj⟩:TbI):=⟨InT.own (HP.get hH9 2 rfl),hjok⟩;have hTU:∀ i9,TbOk s y l m w8 ((upA T2 E (⟨pvj,(jK K r.t r2.t),cpj⟩:TbI)) i9):=fun i9=>by unfold upA;split;exact hjn;exact hT2 i9
  have hF10:HP (Out [pE pb cq n cap b6 b4 (fjK K) ga,aE ga n T]) w w8 [pE pb cq n cap b6 b4 (fjK K) ga,aE ga n (upA T2 E (⟨pvj,(jK K r.t r2.t),cpj⟩:TbI))]:=(HP.drop hH9 2);have hM10:=HP.exch (A:=[]) hM0 hF10;have hE10:=hE.keep hF10;have hk10_r:=hE.tab hr hF10;have hH11:=HP.startB hE10.own;refine WQ.then (hK7 _ _ _ (WC.seq fun K12 hK12=>?_));refine WC.confG (γ:=Option Addr × Nat × Unit) [(0,vP pb 0),(1,vI (i:Int)),(2,vI (-1)),(3,vI (E:Int)),(4,.slice r.q r.t.length r.c),(25,vI (c i)),(26,.bool true),(29,.bool false)] (fun gy=>[vP pb 0,vP pb 0,vP pb 1,.func (.func 33) #[] #[vP b6 0,vP b4 0],vI (E:Int),vP pb 0,vP pb 0,vP pb 5,vS ga n n,vI (E:Int),vP ga E,.slice pvj ((jK K r.t r2.t).length) cpj,.slice gy.1 ((tcH s y ((E:Int)/l) (kK K) (jK K r.t r2.t)).length) gy.2.1,.slice gy.1 ((tcH s y ((E:Int)/l) (kK K) (jK K r.t r2.t)).length) gy.2.1]) (fun gy D wz=>HP (Out [pE pb cq n cap b6 b4 (fjK K) ga,aE ga n (upA T2 E (⟨pvj,(jK K r.t r2.t),cpj⟩:TbI))]) w8 wz ([.cel pb #[.slice cq n cap,.func (.func 33) #[] #[vP b6 0,vP b4 0],.func (.func (fjK K)) #[] #[],.func (.func 34) #[] #[],.func (.func 35) #[] #[],vS ga n n] 71,.cel ga (aR n (upA T2 E (⟨pvj,(jK K r.t r2.t),cpj⟩:TbI))) 64]++((bif D 12 then [rowT gy.1 (tcH s y ((E:Int)/l) (kK K) (jK K r.t r2.t)).length gy.2.1 (tcH s y ((E:Int)/l) (kK K) (jK K r.t r2.t))] else [])++[]))) (none,0,()) (by kernel_rfl) ⟨rfl,rfl,rfl,rfl,rfl,rfl,rfl,rfl,trivial⟩ (by kernel_rfl) (by kernel_rfl) (by kernel_rfl) (fun _=>rfl) (by kernel_rfl) (HP.drew hH11) ?_ ?_
  ·
   refine AllOk.cons ?o0 (AllOk.cons ?o1 (AllOk.cons ?o2 (AllOk.cons ?o3 (AllOk.cons ?o4 (AllOk.cons ?o5 (AllOk.cons ?o6 (AllOk.cons ?o7 (AllOk.cons ?o8 (AllOk.cons ?o9 (AllOk.cons ?o10 (AllOk.cons ?o11 (AllOk.cons ?o12 (AllOk.cons ?o13 (AllOk.nil _))))))))))))))
   case o0 =>
    intro gy D wz hDi hdep hclo hW;exact cfv gy wz (by kernel_rfl) hW
   case o1 =>
    intro gy D wz hDi hdep hclo hW;exact cfv gy wz (by kernel_rfl) hW
   case o2 =>
    intro gy D wz hDi hdep hclo hW;exact cfv gy wz (by kernel_rfl) hW
   case o3 =>
    intro gy D wz hDi hdep hclo hW;exact cfv gy wz (x_load rfl rfl Tryz.underlying65 rfl (HP.cell hW 0 rfl rfl)) hW
   case o4 =>
    intro gy D wz hDi hdep hclo hW;exact cfv gy wz (by kernel_rfl) hW
   case o5 =>
    intro gy D wz hDi hdep hclo hW;exact cfv gy wz (by kernel_rfl) hW
   case o6 =>
    intro gy D wz hDi hdep hclo hW;exact cfv gy wz (by kernel_rfl) hW
   case o7 =>
    intro gy D wz hDi hdep hclo hW;exact cfv gy wz (by kernel_rfl) hW
   case o8 =>
    intro gy D wz hDi hdep hclo hW;exact cfv gy wz (x_load rfl rfl Tryz.underlying69 rfl (HP.cell hW 0 rfl rfl)) hW
   case o9 =>
    intro gy D wz hDi hdep hclo hW;exact cfv gy wz (by kernel_rfl) hW
   case o10 =>
    intro gy D wz hDi hdep hclo hW;exact cfv gy wz (x_ix (E) (E) Tryz.underlying69 sz64) hW
   case o11 =>
    intro gy D wz hDi hdep hclo hW;exact cfv gy wz (x_load rfl rfl Tryz.underlying64 rfl (HP.cell hW 1 rfl (aR_up (by omega)))) hW
   case o12 =>
    intro gy D wz hDi hdep hclo hW;have d13:D 13=false:=by
     cases h:D 13 with
     | false=>rfl
     | true=>exact absurd (hclo 13 _ rfl h ⟨12,.data⟩ (by simp) rfl) (by rw [hDi];exact Bool.false_ne_true)
    have hW2:=hW
    try simp only [hDi,cond_true,cond_false,List.append_nil,List.nil_append,List.cons_append] at hW2
    refine .inl ⟨rfl,rfl,.inr (.inr ⟨33,#[vI (E:Int),.slice pvj ((jK K r.t r2.t).length) cpj,vP b6 0,vP b4 0],by kernel_rfl,(doK_any K s y l m E pvj (jK K r.t r2.t) cpj b6 b4 _ (hE10.keep hW2).how (hE10.keep hW2).geo (hE10.tab hjn hW2).inn hjok (by omega)).mono ?_⟩)⟩;rintro e w3 ⟨pvd,cpd,rfl,hbd⟩;have hA:=HP.trans hW2 hbd;refine⟨⟨pvd,cpd,()⟩,fun j hj=>?_,rfl,?_⟩
    ·
     match j,hj with
     | 0,hj=>rfl
     | 1,hj=>rfl
     | 2,hj=>rfl
     | 3,hj=>rfl
     | 4,hj=>rfl
     | 5,hj=>rfl
     | 6,hj=>rfl
     | 7,hj=>rfl
     | 8,hj=>rfl
     | 9,hj=>rfl
     | 10,hj=>rfl
     | 11,hj=>rfl
     | 12,hj=>rw [hDi] at hj;cases hj
     | 13,hj=>exact absurd hj (by rw [d13];exact Bool.false_ne_true)
     | j+14,_=>rfl
    ·
     show HP (Out [pE pb cq n cap b6 b4 (fjK K) ga,aE ga n (upA T2 E (⟨pvj,(jK K r.t r2.t),cpj⟩:TbI))]) w8 w3 ([.cel pb #[.slice cq n cap,.func (.func 33) #[] #[vP b6 0,vP b4 0],.func (.func (fjK K)) #[] #[],.func (.func 34) #[] #[],.func (.func 35) #[] #[],vS ga n n] 71,.cel ga (aR n (upA T2 E (⟨pvj,(jK K r.t r2.t),cpj⟩:TbI))) 64]++([rowT pvd (tcH s y ((E:Int)/l) (kK K) (jK K r.t r2.t)).length cpd (tcH s y ((E:Int)/l) (kK K) (jK K r.t r2.t))]++[]))
     try simp only [cond_true,cond_false,List.append_nil,List.nil_append,List.cons_append]
     exact hA
   case o13 =>
    intro gy D wz hDi hdep hclo hW;exact cfv gy wz (by kernel_rfl) hW
  rintro ⟨pvd,cpd,gu⟩ D w13 hall hH14;simp only [hall 12 (by kernel_rfl),cond_true,List.append_nil,List.nil_append,List.cons_append] at hH14;clear hall;refine WQ.sb [(0,vP pb 0),(1,vI (i:Int)),(2,vI (-1)),(3,vI (E:Int)),(4,.slice r.q r.t.length r.c),(10,.slice pvd ((tcH s y ((E:Int)/l) (kK K) (jK K r.t r2.t)).length) cpd),(25,vI (c i)),(26,.bool true),(29,.bool false)] ?_;have hdn:TbOk s y l m w13 (⟨pvd,(tcH s y ((E:Int)/l) (kK K) (jK K r.t r2.t)),cpd⟩:TbI):=⟨InT.own (HP.get hH14 2 rfl),VT_tc hjok (line_of (vG_iff.1 hg0).2.2.1 (by omega))⟩;have hF15:HP (Out [pE pb cq n cap b6 b4 (fjK K) ga,aE ga n (upA T2 E (⟨pvj,(jK K r.t r2.t),cpj⟩:TbI))]) w8 w13 [pE pb cq n cap b6 b4 (fjK K) ga,aE ga n (upA T2 E (⟨pvj,(jK K r.t r2.t),cpj⟩:TbI))]:=(HP.drop hH14 2);have hM15:=HP.exch (A:=[]) hM10 hF15;have hE15:=hE10.keep hF15;have hk15_r:=hE10.tab hk10_r hF15;have hk15_j:=hE10.tab hjn hF15;have hT15:=fun i9=>hE10.tab (hTU i9) hF15;have hH16:=HP.startB hE15.own;refine WQ.then (hK12 _ _ _ (WC.ret ?_));refine WQ.inRet ?_;refine WQ.thenRet ?_;refine WQ.ret1 10 rfl rfl ?_;refine⟨⟨pvd,(tcH s y ((E:Int)/l) (kK K) (jK K r.t r2.t)),cpd⟩,(upA T2 E (⟨pvj,(jK K r.t r2.t),cpj⟩:TbI)),rfl,hM15,hdn,hT15,?_⟩;rw [tabs_up];unfold brkP;rw [if_pos (show (cdOf c n).c i=29 from h29),← hXr2]
  rfl
 ·
  refine WL.y (.bool false) 27 (x_eql rfl rfl rfl (dF (h29))) (WL.z (.bool false) 26 (WL.k hK4 ?_));refine WC.no rfl ?_;refine WC.seq fun K17 hK17=>WC.region ?_;by_cases h30:c i=30
  ·
   refine WL.y (.bool true) 80 (x_eql rfl rfl rfl (dT (h30))) (WL.z (.bool true) 79 (WL.k hK17 ?_));refine WC.yes rfl ?_;refine WC.seq fun K18 hK18=>WC.region (WL.z (.slice r.q r.t.length r.c) 81 (WL.z (.slice r.q r.t.length r.c) 12 (WL.k hK18 (WC.block ?_))));refine WC.loop (fun kk0 ll0 ww0=>∃ (kf:Nat) (rin:TbI) (T1:Nat→TbI),ll0=[(0,vP pb 0),(1,vI (i:Int)),(3,vI (E:Int)),(4,.slice r.q r.t.length r.c),(12,.slice rin.q rin.t.length rin.c)]∧kk0=kf∧((opsK K s y l).mu rin.t≤kf)∧(Fl.iter (opsK K s y l) (Fl.last (opsK K s y l) (Fl.sol (opsK K s y l) (cdOf c n) Rb) E) kf rin.t (tabs T1)=Fl.iter (opsK K s y l) (Fl.last (opsK K s y l) (Fl.sol (opsK K s y l) (cdOf c n) Rb) E) ((opsK K s y l).mu r.t) r.t (tabs T))∧(TbOk s y l m ww0 r)∧(TbOk s y l m ww0 rin)∧(∀ i,TbOk s y l m ww0 (T1 i))∧(HP (Out [pE pb cq n cap b6 b4 (fjK K) ga,aE ga n T]) w ww0 [pE pb cq n cap b6 b4 (fjK K) ga,aE ga n T1])∧HP Tr ww0 ww0 []) ((opsK K s y l).mu r.t) [(0,vP pb 0),(1,vI (i:Int)),(3,vI (E:Int)),(4,.slice r.q r.t.length r.c),(12,.slice r.q r.t.length r.c)] ⟨rfl,rfl,rfl,rfl,rfl,trivial⟩ ⟨(opsK K s y l).mu r.t,r,T,rfl,rfl,Nat.le_refl _,rfl,hr,hr,hT,hM0,HP.refl _⟩ ?_;rintro kk l w20 ⟨kf,rin,T1,rfl,hkk,hkf,hit,hr1,hrin,hT1,hM,hH21⟩ K19 hK19;have hE1:=hE.keep hM;have hH22:=HP.startB hE1.own;refine WC.block (WC.seq fun K23 hK23=>WC.region (WL.z (vP pb 0) 82 (WL.z (vI (i:Int)) 83 (WL.y (vI ((i+1:Nat):Int)) 84 (x_ad (((i+1:Nat):Int))) (WL.z (vI (E:Int)) 85 (WL.z (.slice rin.q rin.t.length rin.c) 86 ?_))))));refine WL.c 96 #[vP pb 0,vI ((i+1:Nat):Int),vI (E:Int),.slice rin.q rin.t.length rin.c] 87 ?_;refine(lastK_any K s y l m pb cq n cap b6 b4 ga c A B hg0 hn9 (i+1) E Rb hlb (by omega) _ T1 _ (hE1.keep hH22) (hE1.tab hrin hH22) (fun i9=>hE1.tab (hT1 i9) hH22)).mono ?_;rintro e w24 ⟨rb,T2,rfl,hbw24,hrb,hT2,hXrb⟩;refine⟨_,rfl,?_⟩
   have hH25:HP (Out [pE pb cq n cap b6 b4 (fjK K) ga,aE ga n T1]) w20 w24 [.cel pb #[.slice cq n cap,.func (.func 33) #[] #[vP b6 0,vP b4 0],.func (.func (fjK K)) #[] #[],.func (.func 34) #[] #[],.func (.func 35) #[] #[],vS ga n n] 71,.cel ga (aR n T2) 64]:=HP.exchF (A:=[pE pb cq n cap b6 b4 (fjK K) ga,aE ga n T1]) (B:=[]) hH22 hbw24;have hF26:HP (Out [pE pb cq n cap b6 b4 (fjK K) ga,aE ga n T1]) w20 w24 [pE pb cq n cap b6 b4 (fjK K) ga,aE ga n T2]:=hH25;have hM26:=HP.exch (A:=[]) hM hF26;have hE26:=hE1.keep hF26;have hk26_r:=hE1.tab hr1 hF26;have hk26_rin:=hE1.tab hrin hF26;have hH27:=HP.startB hE26.own;refine WL.z (.slice rb.q rb.t.length rb.c) 13 (WL.k hK23 (WC.sb [(0,vP pb 0),(1,vI (i:Int)),(3,vI (E:Int)),(4,.slice r.q r.t.length r.c),(12,.slice rin.q rin.t.length rin.c),(13,.slice rb.q rb.t.length rb.c)] (WC.seq fun K28 hK28=>WC.region (WL.z (vP pb 0) 88 (WL.z (vP pb 0) 89 (WL.z (vP pb 2) 90 (WL.y (.func (.func (fjK K)) #[] #[]) 91 (x_load rfl rfl Tryz.underlying45 rfl (HP.cell hH27 0 rfl rfl)) (WL.z (.slice rin.q rin.t.length rin.c) 92 ?_))))))));refine WL.z (.slice rb.q rb.t.length rb.c) 93 ?_;refine WL.call (f:=(fjK K)) (args:=#[.slice rin.q rin.t.length rin.c,.slice rb.q rb.t.length rb.c]) 94 rfl (Nat.le_of_ble_eq_true rfl) rfl rfl (by cases K <;> kernel_rfl) ?_;refine(joinK_any K rin.q rb.q rin.t rb.t rin.c rb.c _ (hE26.tab hk26_rin hH27).inn (hE26.tab hrb hH27).inn (by have:=(hE26.tab hk26_rin hH27).ok.len;omega) (by have:=(hE26.tab hrb hH27).ok.len;omega) (hE26.tab hk26_rin hH27).ok.so (hE26.tab hrb hH27).ok.so).mono ?_;rintro e w29 ⟨pvnx,cpnx,rfl,hbw29⟩;refine⟨_,rfl,?_⟩;have hH30:HP (Out [pE pb cq n cap b6 b4 (fjK K) ga,aE ga n T2]) w24 w29 [.cel pb #[.slice cq n cap,.func (.func 33) #[] #[vP b6 0,vP b4 0],.func (.func (fjK K)) #[] #[],.func (.func 34) #[] #[],.func (.func 35) #[] #[],vS ga n n] 71,.cel ga (aR n T2) 64,rowT pvnx (jK K rin.t rb.t).length cpnx (jK K rin.t rb.t)]:=HP.trans hH27 hbw29
   have hnx:TbOk s y l m w29 (⟨pvnx,(jK K rin.t rb.t),cpnx⟩:TbI):=⟨InT.own (HP.get hH30 2 rfl),VT_jK K hk26_rin.ok hrb.ok⟩;have hF31:HP (Out [pE pb cq n cap b6 b4 (fjK K) ga,aE ga n T2]) w24 w29 [pE pb cq n cap b6 b4 (fjK K) ga,aE ga n T2]:=(HP.drop hH30 2);have hM31:=HP.exch (A:=[]) hM26 hF31;have hE31:=hE26.keep hF31;have hk31_r:=hE26.tab hk26_r hF31;have hk31_rin:=hE26.tab hk26_rin hF31;have hk31_rb:=hE26.tab hrb hF31;have hT31:=fun i9=>hE26.tab (hT2 i9) hF31;have hH32:=HP.startB hE31.own;refine WL.z (.slice pvnx ((jK K rin.t rb.t).length) cpnx) 14 (WL.k hK28 (WC.sb [(0,vP pb 0),(1,vI (i:Int)),(3,vI (E:Int)),(4,.slice r.q r.t.length r.c),(12,.slice rin.q rin.t.length rin.c),(13,.slice rb.q rb.t.length rb.c),(14,.slice pvnx ((jK K rin.t rb.t).length) cpnx)] (WC.seq fun K33 hK33=>WC.seq fun K34 hK34=>WC.region (WL.z (vP pb 0) 95 (WL.z (vP pb 0) 96 (WL.z (vP pb 3) 97 (WL.y (.func (.func 34) #[] #[]) 98 (x_load rfl rfl Tryz.underlying66 rfl (HP.cell hH32 0 rfl rfl)) ?_)))))));refine WL.z (.slice pvnx ((jK K rin.t rb.t).length) cpnx) 99 (WL.z (.slice rin.q rin.t.length rin.c) 100 ?_);by_cases hq:(jK K rin.t rb.t)=rin.t
   ·
    refine WL.c 34 #[.slice pvnx ((jK K rin.t rb.t).length) cpnx,.slice rin.q rin.t.length rin.c] 101 ?_;refine(BEq_at (by exact decide_eq_true hq) (Equal_any pvnx rin.q (jK K rin.t rb.t) rin.t cpnx rin.c _ (hE31.tab hnx hH32).inn (hE31.tab hk31_rin hH32).inn (by have q9:(jK K rin.t rb.t).length≤1000:=hnx.ok.len;omega))).mono ?_;rintro e wq ⟨rfl,hbq⟩;refine⟨_,rfl,?_⟩;have hH35:=HP.call hH32 hbq;have hF36:HP (Out [pE pb cq n cap b6 b4 (fjK K) ga,aE ga n T2]) w29 wq [pE pb cq n cap b6 b4 (fjK K) ga,aE ga n T2]:=hH35;have hM36:=HP.exch (A:=[]) hM31 hF36;have hE36:=hE31.keep hF36;have hk36_r:=hE31.tab hk31_r hF36;have hk36_rin:=hE31.tab hk31_rin hF36;have hk36_rb:=hE31.tab hk31_rb hF36;have hk36_nx:=hE31.tab hnx hF36;have hT36:=fun i9=>hE31.tab (hT31 i9) hF36;have hH37:=HP.startB hE36.own;refine WL.k hK34 (WC.sb [(0,vP pb 0),(1,vI (i:Int)),(3,vI (E:Int)),(4,.slice r.q r.t.length r.c),(12,.slice rin.q rin.t.length rin.c),(13,.slice rb.q rb.t.length rb.c),(14,.slice pvnx ((jK K rin.t rb.t).length) cpnx),(101,.bool true)] ?_);refine WC.yes rfl ?_;refine WC.seq fun K38 hK38=>WC.region (WL.z (vP pb 0) 102 (WL.z (vP pb 0) 103 (WL.z (vP pb 2) 104 (WL.y (.func (.func (fjK K)) #[] #[]) 105 (x_load rfl rfl Tryz.underlying45 rfl (HP.cell hH37 0 rfl rfl)) (WL.z (.slice r.q r.t.length r.c) 106 (WL.z (.slice rb.q rb.t.length rb.c) 107 ?_))))));refine WL.call (f:=(fjK K)) (args:=#[.slice r.q r.t.length r.c,.slice rb.q rb.t.length rb.c]) 108 rfl (Nat.le_of_ble_eq_true rfl) rfl rfl (by cases K <;> kernel_rfl) ?_;refine(joinK_any K r.q rb.q r.t rb.t r.c rb.c _ (hE36.tab hk36_r hH37).inn (hE36.tab hk36_rb hH37).inn (by have:=(hE36.tab hk36_r hH37).ok.len;omega) (by have:=(hE36.tab hk36_rb hH37).ok.len;omega) (hE36.tab hk36_r hH37).ok.so (hE36.tab hk36_rb hH37).ok.so).mono ?_;rintro e w39 ⟨pvfj,cpfj,rfl,hbw39⟩
    refine⟨_,rfl,?_⟩;have hH40:HP (Out [pE pb cq n cap b6 b4 (fjK K) ga,aE ga n T2]) wq w39 [.cel pb #[.slice cq n cap,.func (.func 33) #[] #[vP b6 0,vP b4 0],.func (.func (fjK K)) #[] #[],.func (.func 34) #[] #[],.func (.func 35) #[] #[],vS ga n n] 71,.cel ga (aR n T2) 64,rowT pvfj (jK K r.t rb.t).length cpfj (jK K r.t rb.t)]:=HP.trans hH37 hbw39;have hfj:TbOk s y l m w39 (⟨pvfj,(jK K r.t rb.t),cpfj⟩:TbI):=⟨InT.own (HP.get hH40 2 rfl),VT_jK K hk36_r.ok hk36_rb.ok⟩;have hF41:HP (Out [pE pb cq n cap b6 b4 (fjK K) ga,aE ga n T2]) wq w39 [pE pb cq n cap b6 b4 (fjK K) ga,aE ga n T2]:=(HP.drop hH40 2);have hM41:=HP.exch (A:=[]) hM36 hF41;have hE41:=hE36.keep hF41;have hk41_r:=hE36.tab hk36_r hF41;have hk41_rin:=hE36.tab hk36_rin hF41;have hk41_rb:=hE36.tab hk36_rb hF41;have hk41_nx:=hE36.tab hk36_nx hF41;have hT41:=fun i9=>hE36.tab (hT36 i9) hF41;have hH42:=HP.startB hE41.own;refine WL.z (.slice pvfj ((jK K r.t rb.t).length) cpfj) 10 (WL.k hK38 (WC.sb [(0,vP pb 0),(1,vI (i:Int)),(3,vI (E:Int)),(4,.slice r.q r.t.length r.c),(10,.slice pvfj ((jK K r.t rb.t).length) cpfj),(12,.slice rin.q rin.t.length rin.c),(13,.slice rb.q rb.t.length rb.c),(14,.slice pvnx ((jK K rin.t rb.t).length) cpnx),(101,.bool true)] (WC.ret ?_)));refine WQ.thenRet ?_;refine WQ.inRet ?_;refine WQ.thenRet ?_;refine WQ.inRet ?_;refine WQ.inRet ?_;refine WQ.thenRet ?_;refine WQ.ret1 10 rfl rfl ?_;have hXb:(Fl.last (opsK K s y l) (Fl.sol (opsK K s y l) (cdOf c n) Rb) E) rin.t (tabs T1)=(rb.t,tabs T2):=hXrb.symm;have hst:=iter_stop (O:=(opsK K s y l)) (f:=(Fl.last (opsK K s y l) (Fl.sol (opsK K s y l) (cdOf c n) Rb) E)) (t:=rin.t) (ah:=tabs T1) (by rw [hXb];exact hq) kf;rw [hst,hXb] at hit;refine⟨⟨pvfj,(jK K r.t rb.t),cpfj⟩,T2,rfl,hM41,hfj,hT41,?_⟩;unfold brkP;rw [if_neg (show ¬ (cdOf c n).c i=29 from h29),if_pos (show (cdOf c n).c i=30 from h30),← hit]
    rfl
   ·
    refine WL.c 34 #[.slice pvnx ((jK K rin.t rb.t).length) cpnx,.slice rin.q rin.t.length rin.c] 101 ?_;refine(BEq_at (by exact decide_eq_false hq) (Equal_any pvnx rin.q (jK K rin.t rb.t) rin.t cpnx rin.c _ (hE31.tab hnx hH32).inn (hE31.tab hk31_rin hH32).inn (by have q9:(jK K rin.t rb.t).length≤1000:=hnx.ok.len;omega))).mono ?_;rintro e wq ⟨rfl,hbq⟩;refine⟨_,rfl,?_⟩;have hH43:=HP.call hH32 hbq;have hF44:HP (Out [pE pb cq n cap b6 b4 (fjK K) ga,aE ga n T2]) w29 wq [pE pb cq n cap b6 b4 (fjK K) ga,aE ga n T2]:=hH43;have hM44:=HP.exch (A:=[]) hM31 hF44;have hE44:=hE31.keep hF44;have hk44_r:=hE31.tab hk31_r hF44;have hk44_rin:=hE31.tab hk31_rin hF44;have hk44_rb:=hE31.tab hk31_rb hF44;have hk44_nx:=hE31.tab hnx hF44;have hT44:=fun i9=>hE31.tab (hT31 i9) hF44;have hH45:=HP.startB hE44.own;refine WL.k hK34 (WC.sb [(0,vP pb 0),(1,vI (i:Int)),(3,vI (E:Int)),(4,.slice r.q r.t.length r.c),(12,.slice rin.q rin.t.length rin.c),(13,.slice rb.q rb.t.length rb.c),(14,.slice pvnx ((jK K rin.t rb.t).length) cpnx),(101,.bool false)] ?_);refine WC.no rfl ?_;refine WC.skip (WQ.then (hK33 _ _ _ (WC.region (WL.z (.slice pvnx ((jK K rin.t rb.t).length) cpnx) 109 (WL.z (.slice pvnx ((jK K rin.t rb.t).length) cpnx) 12 (WL.nil (WQ.inNormal ?_)))))));have hXb:(Fl.last (opsK K s y l) (Fl.sol (opsK K s y l) (cdOf c n) Rb) E) rin.t (tabs T1)=(rb.t,tabs T2):=hXrb.symm;have hJ9:(opsK K s y l).J rin.t ((Fl.last (opsK K s y l) (Fl.sol (opsK K s y l) (cdOf c n) Rb) E) rin.t (tabs T1)).1=(jK K rin.t rb.t):=(by rw [hXb];rfl);have hlt9:(opsK K s y l).mu (jK K rin.t rb.t)<(opsK K s y l).mu rin.t:=mu_ltK K _ _ hk44_rin.ok hk44_nx.ok (jK_left K hk44_rin.ok.so hk44_rb.ok.so) (fun e=>hq e.symm);obtain⟨kf2,rfl⟩:∃ k9,kf=k9+1:=⟨kf-1,by omega⟩;have hgo:=iter_go (O:=(opsK K s y l)) (f:=(Fl.last (opsK K s y l) (Fl.sol (opsK K s y l) (cdOf c n) Rb) E)) (t:=rin.t) (ah:=tabs T1) (k:=kf2) (by rw [hJ9];exact hq)
    rw [hJ9,hXb] at hgo;refine WQ.sb [(0,vP pb 0),(1,vI (i:Int)),(3,vI (E:Int)),(4,.slice r.q r.t.length r.c),(12,.slice pvnx ((jK K rin.t rb.t).length) cpnx)] ?_;refine WQ.then (hK19 _ _ _ (by omega) ⟨kf2,(⟨pvnx,(jK K rin.t rb.t),cpnx⟩:TbI),T2,rfl,rfl,(show (opsK K s y l).mu (jK K rin.t rb.t)≤kf2 by omega),hgo.symm.trans hit,hk44_r,hk44_nx,hT44,hM44,HP.refl _⟩)
  ·
   refine WL.y (.bool false) 80 (x_eql rfl rfl rfl (dF (h30))) (WL.z (.bool false) 79 (WL.k hK17 ?_));refine WC.no rfl ?_;refine WC.seq fun K46 hK46=>WC.region (WL.y (.bool false) 111 (x_eql rfl rfl rfl (dF (by omega))) (WL.z (.bool false) 110 (WL.k hK46 ?_)));refine WC.no rfl ?_;refine WC.skip (WQ.inNormal (WQ.then (hK2 _ _ _ (WC.seq fun K47 hK47=>WC.region (WL.z (vP pb 0) 164 (WL.z (vI (i:Int)) 165 (WL.y (vI ((i+1:Nat):Int)) 166 (x_ad (((i+1:Nat):Int))) (WL.z (vI (E:Int)) 167 (WL.z (.slice r.q r.t.length r.c) 168 ?_)))))))));refine WL.c 96 #[vP pb 0,vI ((i+1:Nat):Int),vI (E:Int),.slice r.q r.t.length r.c] 169 ?_;refine(lastK_any K s y l m pb cq n cap b6 b4 ga c A B hg0 hn9 (i+1) E Rb hlb (by omega) _ T _ (hE.keep (HP.startB hE.own)) (hE.tab hr (HP.startB hE.own)) (fun i9=>hE.tab (hT i9) (HP.startB hE.own))).mono ?_;rintro e w48 ⟨r1,T1,rfl,hbw48,hr1,hT1,hXr1⟩;refine⟨_,rfl,?_⟩;have hH49:HP (Out [pE pb cq n cap b6 b4 (fjK K) ga,aE ga n T]) w w48 [.cel pb #[.slice cq n cap,.func (.func 33) #[] #[vP b6 0,vP b4 0],.func (.func (fjK K)) #[] #[],.func (.func 34) #[] #[],.func (.func 35) #[] #[],vS ga n n] 71,.cel ga (aR n T1) 64]:=HP.exchF (A:=[pE pb cq n cap b6 b4 (fjK K) ga,aE ga n T]) (B:=[]) (HP.startB hE.own) hbw48;have hF50:HP (Out [pE pb cq n cap b6 b4 (fjK K) ga,aE ga n T]) w w48 [pE pb cq n cap b6 b4 (fjK K) ga,aE ga n T1]:=hH49;have hM50:=HP.exch (A:=[]) hM0 hF50;have hE50:=hE.keep hF50;have hk50_r:=hE.tab hr hF50;have hH51:=HP.startB hE50.own;refine WL.z (.slice r1.q r1.t.length r1.c) 10 (WL.k hK47 (WC.sb [(0,vP pb 0),(1,vI (i:Int)),(2,vI (-1)),(3,vI (E:Int)),(4,.slice r.q r.t.length r.c),(10,.slice r1.q r1.t.length r1.c),(25,vI (c i)),(26,.bool false),(79,.bool false),(110,.bool false)] (WC.ret ?_)));refine WQ.ret1 10 rfl rfl ?_;refine⟨r1,T1,rfl,hM50,hr1,hT1,?_⟩;unfold brkP
   rw [if_neg (show ¬ (cdOf c n).c i=29 from h29),if_neg (show ¬ (cdOf c n).c i=30 from h30)];exact hXr1
theorem brAK_any (K:Bool) (s y l m:Int) (pb:Nat) (cq:Option Addr) (n cap b6 b4 ga:Nat) (c A B:Nat→Int) (hg0:vG s y l m=true) (hn9:n≤400) (i a E:Nat) (Ra Rb:Fl.Tr) (hop:c i=29∨c i=33) (hia:i+1≤a) (haE:a+1≤E) (hEn:E<n) (hla:∀ (w:World) (T:Nat→TbI) (r:TbI),Env s y l m pb cq n cap b6 b4 (fhK K) (fjK K) ga c A B w T→TbOk s y l m w r→(∀ i,TbOk s y l m w (T i))→Calls Tryz.prog 61 #[vP pb 0,vI ((i+1:Nat):Int),vI (a:Int),tbV r] w (TabR s y l m pb cq n cap b6 b4 (fjK K) ga T (Fl.sol (opsK K s y l) (cdOf c n) Ra r.t (tabs T)) w)) (hlb:∀ (w:World) (T:Nat→TbI) (r:TbI),Env s y l m pb cq n cap b6 b4 (fhK K) (fjK K) ga c A B w T→TbOk s y l m w r→(∀ i,TbOk s y l m w (T i))→Calls Tryz.prog 61 #[vP pb 0,vI ((a+1:Nat):Int),vI (E:Int),tbV r] w (TabR s y l m pb cq n cap b6 b4 (fjK K) ga T (Fl.sol (opsK K s y l) (cdOf c n) Rb r.t (tabs T)) w)) (w:World) (T:Nat→TbI) (r:TbI) (hE:Env s y l m pb cq n cap b6 b4 (fhK K) (fjK K) ga c A B w T) (hr:TbOk s y l m w r) (hT:∀ i,TbOk s y l m w (T i)) :
  Calls Tryz.prog 88 #[vP pb 0,vI (i:Int),vI (a:Int),vI (E:Int),.slice r.q r.t.length r.c] w (TabR s y l m pb cq n cap b6 b4 (fjK K) ga T (brkA (opsK K s y l) (cdOf c n) i a E (Fl.sol (opsK K s y l) (cdOf c n) Ra) (Fl.sol (opsK K s y l) (cdOf c n) Rb) r.t (tabs T)) w):=by
 refine calls_of Tryz.func88 rfl (m:=170) rfl [(0,vP pb 0),(1,vI (i:Int)),(2,vI (a:Int)),(3,vI (E:Int)),(4,.slice r.q r.t.length r.c)] (Fr_enter [vP pb 0,vI (i:Int),vI (a:Int),vI (E:Int),.slice r.q r.t.length r.c] 170 (Nat.le_of_ble_eq_true rfl)) ?_;have hM0:HP (Out [pE pb cq n cap b6 b4 (fjK K) ga,aE ga n T]) w w [pE pb cq n cap b6 b4 (fjK K) ga,aE ga n T]:=HP.startB hE.own;refine WC.seq fun K1 hK1=>WC.region (WL.z (.slice none 0 0) 10 (WL.k hK1 (WC.seq fun K2 hK2=>WC.seq fun K3 hK3=>?_)));obtain⟨gc,oc,hqc,hrowc⟩:=hE.code (by omega);have hgc9:=out_int hE.own (hrowc i (by omega) 0 _ rfl);refine WC.region (WL.z (vP pb 0) 18 (WL.z (vP pb 0) 19 (WL.z (vP pb 0) 20 (WL.y (.slice cq n cap) 21 (x_load rfl rfl Tryz.underlying24 rfl (HP.cell (HP.startB hE.own) 0 rfl rfl)) (WL.z (vI (i:Int)) 22 (WL.y (vP gc (oc+i*3)) 23 (x_idx (b:=gc) (off:=oc) i (oc+i*3) rfl (by rw [← hqc];rfl) rfl Tryz.underlying24 sz51 (by omega) (by omega) (by omega)) (WL.z (vP gc (oc+i*3)) 24 (WL.y (vI (c i)) 25 (x_load rfl rfl Tryz.underlying3 rfl ((HP.oldRange (HP.startB hE.own) hgc9 (hrowc i (by omega))) 0 _ rfl)) (WL.k hK3 ?_)))))))));refine WC.sb [(0,vP pb 0),(1,vI (i:Int)),(2,vI (a:Int)),(3,vI (E:Int)),(4,.slice r.q r.t.length r.c),(10,.slice none 0 0),(25,vI (c i))] (WC.block (WC.seq fun K4 hK4=>WC.region ?_));by_cases h29:c i=29
 ·
  refine WL.y (.bool true) 27 (x_eql rfl rfl rfl (dT (h29))) (WL.z (.bool true) 26 (WL.k hK4 ?_));refine WC.yes rfl ?_;refine WC.seq fun K5 hK5=>WC.seq fun K6 hK6=>WC.region (WL.z (vI (a:Int)) 28 (WL.y (.bool true) 29 (x_geq rfl rfl rfl (dT (by omega))) (WL.k hK6 ?_)));refine WC.yes rfl ?_;refine WC.seq fun K7 hK7=>WC.region (WL.z (vP pb 0) 30 (WL.z (vI (i:Int)) 31 (WL.y (vI ((i+1:Nat):Int)) 32 (x_ad (((i+1:Nat):Int))) (WL.z (vI (a:Int)) 33 (WL.z (.slice r.q r.t.length r.c) 34 ?_)))));refine WL.c 96 #[vP pb 0,vI ((i+1:Nat):Int),vI (a:Int),.slice r.q r.t.length r.c] 35 ?_;refine(lastK_any K s y l m pb cq n cap b6 b4 ga c A B hg0 hn9 (i+1) a Ra hla (by omega) _ T _ (hE.keep (HP.startB hE.own)) (hE.tab hr (HP.startB hE.own)) (fun i9=>hE.tab (hT i9) (HP.startB hE.own))).mono ?_;rintro e w8 ⟨r1,T1,rfl,hbw8,hr1,hT1,hXr1⟩;refine⟨_,rfl,?_⟩;have hH9:HP (Out [pE pb cq n cap b6 b4 (fjK K) ga,aE ga n T]) w w8 [.cel pb #[.slice cq n cap,.func (.func 33) #[] #[vP b6 0,vP b4 0],.func (.func (fjK K)) #[] #[],.func (.func 34) #[] #[],.func (.func 35) #[] #[],vS ga n n] 71,.cel ga (aR n T1) 64]:=HP.exchF (A:=[pE pb cq n cap b6 b4 (fjK K) ga,aE ga n T]) (B:=[]) (HP.startB hE.own) hbw8;have hF10:HP (Out [pE pb cq n cap b6 b4 (fjK K) ga,aE ga n T]) w w8 [pE pb cq n cap b6 b4 (fjK K) ga,aE ga n T1]:=hH9;have hM10:=HP.exch (A:=[]) hM0 hF10;have hE10:=hE.keep hF10;have hk10_r:=hE.tab hr hF10;have hH11:=HP.startB hE10.own;refine WL.z (.slice r1.q r1.t.length r1.c) 11 (WL.k hK7 (WC.sb [(0,vP pb 0),(1,vI (i:Int)),(2,vI (a:Int)),(3,vI (E:Int)),(4,.slice r.q r.t.length r.c),(10,.slice none 0 0),(11,.slice r1.q r1.t.length r1.c),(25,vI (c i)),(26,.bool true),(29,.bool true)] (WC.seq fun K12 hK12=>?_)));refine WC.confG (γ:=TbI × (Nat→TbI) × Option Addr × Nat × Unit) [(0,vP pb 0),(1,vI (i:Int)),(2,vI (a:Int)),(3,vI (E:Int)),(4,.slice r.q r.t.length r.c),(11,.slice r1.q r1.t.length r1.c),(25,vI (c i)),(26,.bool true),(29,.bool true)] (fun gy=>[vP pb 0,vP pb 0,vP pb 2,.func (.func (fjK K)) #[] #[],.slice r1.q r1.t.length r1.c,vP pb 0,vI (a:Int),vI ((a+1:Nat):Int),vI (E:Int),.slice r.q r.t.length r.c,.slice gy.1.q gy.1.t.length gy.1.c,.slice gy.2.2.1 ((jK K r1.t gy.1.t).length) gy.2.2.2.1,.slice gy.2.2.1 ((jK K r1.t gy.1.t).length) gy.2.2.2.1]) (fun gy D wz=>HP (Out [pE pb cq n cap b6 b4 (fjK K) ga,aE ga n T1]) w8 wz ([.cel pb #[.slice cq n cap,.func (.func 33) #[] #[vP b6 0,vP b4 0],.func (.func (fjK K)) #[] #[],.func (.func 34) #[] #[],.func (.func 35) #[] #[],vS ga n n] 71,(bif D 10 then Ent.cel ga (aR n gy.2.1) 64 else Ent.cel ga (aR n T1) 64)]++((bif D 11 then [rowT gy.2.2.1 (jK K r1.t gy.1.t).length gy.2.2.2.1 (jK K r1.t gy.1.t)] else [])++[]))∧(D 10=true→(TbOk s y l m wz gy.1∧(∀ i9,TbOk s y l m wz (gy.2.1 i9))∧(gy.1.t,tabs gy.2.1)=Fl.last (opsK K s y l) (Fl.sol (opsK K s y l) (cdOf c n) Rb) E r.t (tabs T1)))) (⟨none,[],0⟩,(fun _=>⟨none,[],0⟩),none,0,()) (by kernel_rfl) ⟨rfl,rfl,rfl,rfl,rfl,rfl,rfl,rfl,rfl,trivial⟩ (by kernel_rfl) (by kernel_rfl) (by kernel_rfl) (fun _=>rfl) (by kernel_rfl) (⟨HP.drew hH11,(fun h=>by cases h)⟩) ?_ ?_
  ·
   refine AllOk.cons ?o0 (AllOk.cons ?o1 (AllOk.cons ?o2 (AllOk.cons ?o3 (AllOk.cons ?o4 (AllOk.cons ?o5 (AllOk.cons ?o6 (AllOk.cons ?o7 (AllOk.cons ?o8 (AllOk.cons ?o9 (AllOk.cons ?o10 (AllOk.cons ?o11 (AllOk.cons ?o12 (AllOk.nil _)))))))))))))
   case o0 =>
    rintro gy D wz hDi hdep hclo ⟨hW,hX0⟩;exact cfv gy wz (by kernel_rfl) ⟨hW,hX0⟩
   case o1 =>
    rintro gy D wz hDi hdep hclo ⟨hW,hX0⟩;exact cfv gy wz (by kernel_rfl) ⟨hW,hX0⟩
   case o2 =>
    rintro gy D wz hDi hdep hclo ⟨hW,hX0⟩;exact cfv gy wz (by kernel_rfl) ⟨hW,hX0⟩
   case o3 =>
    rintro gy D wz hDi hdep hclo ⟨hW,hX0⟩;exact cfv gy wz (x_load rfl rfl Tryz.underlying45 rfl (HP.cell hW 0 rfl rfl)) ⟨hW,hX0⟩
   case o4 =>
    rintro gy D wz hDi hdep hclo ⟨hW,hX0⟩;exact cfv gy wz (by kernel_rfl) ⟨hW,hX0⟩
   case o5 =>
    rintro gy D wz hDi hdep hclo ⟨hW,hX0⟩;exact cfv gy wz (by kernel_rfl) ⟨hW,hX0⟩
   case o6 =>
    rintro gy D wz hDi hdep hclo ⟨hW,hX0⟩;exact cfv gy wz (by kernel_rfl) ⟨hW,hX0⟩
   case o7 =>
    rintro gy D wz hDi hdep hclo ⟨hW,hX0⟩;exact cfv gy wz (x_ad (((a+1:Nat):Int))) ⟨hW,hX0⟩
   case o8 =>
    rintro gy D wz hDi hdep hclo ⟨hW,hX0⟩;exact cfv gy wz (by kernel_rfl) ⟨hW,hX0⟩
   case o9 =>
    rintro gy D wz hDi hdep hclo ⟨hW,hX0⟩;exact cfv gy wz (by kernel_rfl) ⟨hW,hX0⟩
   case o10 =>
    rintro gy D wz hDi hdep hclo ⟨hW,hX0⟩;have d11:D 11=false:=by
     cases h:D 11 with
     | false=>rfl
     | true=>exact absurd (hclo 11 _ rfl h ⟨10,.data⟩ (by simp) rfl) (by rw [hDi];exact Bool.false_ne_true)
    have d12:D 12=false:=by
     cases h:D 12 with
     | false=>rfl
     | true=>exact absurd (hclo 12 _ rfl h ⟨10,.phase⟩ (by simp) rfl) (by rw [hDi];exact Bool.false_ne_true)
    have hW2:=hW
    try simp only [d11,hDi,cond_true,cond_false,List.append_nil,List.nil_append,List.cons_append] at hW2
    refine .inl ⟨rfl,rfl,.inr (.inr ⟨96,#[vP pb 0,vI ((a+1:Nat):Int),vI (E:Int),.slice r.q r.t.length r.c],by kernel_rfl,(lastK_any K s y l m pb cq n cap b6 b4 ga c A B hg0 hn9 (a+1) E Rb hlb (by omega) _ T1 _ (hE10.keep hW2) (hE10.tab hk10_r hW2) (fun i9=>hE10.tab (hT1 i9) hW2)).mono ?_⟩)⟩;rintro e w3 ⟨r2,T2,rfl,hb9,hr9,hT9,hX9⟩;have hA:=HP.exchF (A:=[pE pb cq n cap b6 b4 (fjK K) ga,aE ga n T1]) (B:=[]) hW2 hb9;refine⟨⟨r2,T2,gy.2.2.1,gy.2.2.2.1,()⟩,fun j hj=>?_,rfl,⟨?_,fun _=>⟨hr9,hT9,hX9⟩⟩⟩
    ·
     match j,hj with
     | 0,hj=>rfl
     | 1,hj=>rfl
     | 2,hj=>rfl
     | 3,hj=>rfl
     | 4,hj=>rfl
     | 5,hj=>rfl
     | 6,hj=>rfl
     | 7,hj=>rfl
     | 8,hj=>rfl
     | 9,hj=>rfl
     | 10,hj=>rw [hDi] at hj;cases hj
     | 11,hj=>exact absurd hj (by rw [d11];exact Bool.false_ne_true)
     | 12,hj=>exact absurd hj (by rw [d12];exact Bool.false_ne_true)
     | j+13,_=>rfl
    ·
     show HP (Out [pE pb cq n cap b6 b4 (fjK K) ga,aE ga n T1]) w8 w3 ([.cel pb #[.slice cq n cap,.func (.func 33) #[] #[vP b6 0,vP b4 0],.func (.func (fjK K)) #[] #[],.func (.func 34) #[] #[],.func (.func 35) #[] #[],vS ga n n] 71,Ent.cel ga (aR n T2) 64]++((bif D 11 then [rowT gy.2.2.1 (jK K r1.t r2.t).length gy.2.2.2.1 (jK K r1.t r2.t)] else [])++[]))
     try simp only [d11,cond_true,cond_false,List.append_nil,List.nil_append,List.cons_append]
     exact hA
   case o11 =>
    rintro gy D wz hDi hdep hclo ⟨hW,hX0⟩;have d10:D 10=true:=hdep ⟨10,.data⟩ (by simp) rfl;have d12:D 12=false:=by
     cases h:D 12 with
     | false=>rfl
     | true=>exact absurd (hclo 12 _ rfl h ⟨11,.data⟩ (by simp) rfl) (by rw [hDi];exact Bool.false_ne_true)
    have hW2:=hW
    try simp only [d10,hDi,cond_true,cond_false,List.append_nil,List.nil_append,List.cons_append] at hW2
    refine .inl ⟨rfl,rfl,.inr (.inr ⟨(fjK K),#[.slice r1.q r1.t.length r1.c,.slice gy.1.q gy.1.t.length gy.1.c],by cases K <;> kernel_rfl,(joinK_any K r1.q gy.1.q r1.t gy.1.t r1.c gy.1.c _ (hE10.tab hr1 hW2).inn (hX0 d10).1.inn (by have:=(hE10.tab hr1 hW2).ok.len;omega) (by have:=(hX0 d10).1.ok.len;omega) (hE10.tab hr1 hW2).ok.so (hX0 d10).1.ok.so).mono ?_⟩)⟩;rintro e w3 ⟨pvj,cpj,rfl,hbj⟩;have hA:=HP.trans hW2 hbj;refine⟨⟨gy.1,gy.2.1,pvj,cpj,()⟩,fun j hj=>?_,rfl,⟨?_,fun h9=>⟨(hX0 h9).1.below (HP.below hbj),(fun i9=>((hX0 h9).2.1 i9).below (HP.below hbj)),(hX0 h9).2.2⟩⟩⟩
    ·
     match j,hj with
     | 0,hj=>rfl
     | 1,hj=>rfl
     | 2,hj=>rfl
     | 3,hj=>rfl
     | 4,hj=>rfl
     | 5,hj=>rfl
     | 6,hj=>rfl
     | 7,hj=>rfl
     | 8,hj=>rfl
     | 9,hj=>rfl
     | 10,hj=>rfl
     | 11,hj=>rw [hDi] at hj;cases hj
     | 12,hj=>exact absurd hj (by rw [d12];exact Bool.false_ne_true)
     | j+13,_=>rfl
    ·
     show HP (Out [pE pb cq n cap b6 b4 (fjK K) ga,aE ga n T1]) w8 w3 ([.cel pb #[.slice cq n cap,.func (.func 33) #[] #[vP b6 0,vP b4 0],.func (.func (fjK K)) #[] #[],.func (.func 34) #[] #[],.func (.func 35) #[] #[],vS ga n n] 71,(bif D 10 then Ent.cel ga (aR n gy.2.1) 64 else Ent.cel ga (aR n T1) 64)]++([rowT pvj (jK K r1.t gy.1.t).length cpj (jK K r1.t gy.1.t)]++[]))
     try simp only [d10,cond_true,cond_false,List.append_nil,List.nil_append,List.cons_append]
     exact hA
   case o12 =>
    rintro gy D wz hDi hdep hclo ⟨hW,hX0⟩;exact cfv gy wz (by kernel_rfl) ⟨hW,hX0⟩
  rintro ⟨r2,T2,pvj,cpj,gu⟩ D w13 hall ⟨hH14,hX0⟩;have hOr2:=hX0 (hall 10 (by kernel_rfl));clear hX0;simp only [hall 10 (by kernel_rfl),hall 11 (by kernel_rfl),cond_true,List.append_nil,List.nil_append,List.cons_append] at hH14;clear hall;refine WQ.sb [(0,vP pb 0),(1,vI (i:Int)),(2,vI (a:Int)),(3,vI (E:Int)),(4,.slice r.q r.t.length r.c),(10,.slice pvj ((jK K r1.t r2.t).length) cpj),(11,.slice r1.q r1.t.length r1.c),(25,vI (c i)),(26,.bool true),(29,.bool true)] ?_;obtain⟨hr2,hT2,hXr2⟩:=hOr2;have hj:TbOk s y l m w13 (⟨pvj,(jK K r1.t r2.t),cpj⟩:TbI):=⟨InT.own (HP.get hH14 2 rfl),VT_jK K hr1.ok hr2.ok⟩;have hF15:HP (Out [pE pb cq n cap b6 b4 (fjK K) ga,aE ga n T1]) w8 w13 [pE pb cq n cap b6 b4 (fjK K) ga,aE ga n T2]:=(HP.drop hH14 2);have hM15:=HP.exch (A:=[]) hM10 hF15;have hE15:=hE10.keep hF15;have hk15_r:=hE10.tab hk10_r hF15;have hk15_r1:=hE10.tab hr1 hF15;have hH16:=HP.startB hE15.own;refine WQ.then (hK12 _ _ _ (WC.ret ?_));refine WQ.thenRet ?_;refine WQ.inRet ?_;refine WQ.thenRet ?_;refine WQ.ret1 10 rfl rfl ?_;refine⟨⟨pvj,(jK K r1.t r2.t),cpj⟩,T2,rfl,hM15,hj,hT2,?_⟩;unfold brkA;rw [if_pos (show (cdOf c n).c i=29 from h29),← hXr1];rw [← hXr2]
  rfl
 ·
  refine WL.y (.bool false) 27 (x_eql rfl rfl rfl (dF (h29))) (WL.z (.bool false) 26 (WL.k hK4 ?_));refine WC.no rfl ?_;refine WC.seq fun K17 hK17=>WC.region (WL.y (.bool false) 80 (x_eql rfl rfl rfl (dF (by omega))) (WL.z (.bool false) 79 (WL.k hK17 ?_)));refine WC.no rfl ?_;refine WC.seq fun K18 hK18=>WC.region (WL.y (.bool true) 111 (x_eql rfl rfl rfl (dT (by omega))) (WL.z (.bool true) 110 (WL.k hK18 ?_)));refine WC.yes rfl ?_;refine WC.seq fun K19 hK19=>WC.region (WL.z (vP pb 0) 112 (WL.z (vI (i:Int)) 113 (WL.y (vI ((i+1:Nat):Int)) 114 (x_ad (((i+1:Nat):Int))) (WL.z (vI (a:Int)) 115 (WL.z (.slice r.q r.t.length r.c) 116 ?_)))));refine WL.c 96 #[vP pb 0,vI ((i+1:Nat):Int),vI (a:Int),.slice r.q r.t.length r.c] 117 ?_;refine(lastK_any K s y l m pb cq n cap b6 b4 ga c A B hg0 hn9 (i+1) a Ra hla (by omega) _ T _ (hE.keep (HP.startB hE.own)) (hE.tab hr (HP.startB hE.own)) (fun i9=>hE.tab (hT i9) (HP.startB hE.own))).mono ?_;rintro e w20 ⟨r1,T1,rfl,hbw20,hr1,hT1,hXr1⟩;refine⟨_,rfl,?_⟩;have hH21:HP (Out [pE pb cq n cap b6 b4 (fjK K) ga,aE ga n T]) w w20 [.cel pb #[.slice cq n cap,.func (.func 33) #[] #[vP b6 0,vP b4 0],.func (.func (fjK K)) #[] #[],.func (.func 34) #[] #[],.func (.func 35) #[] #[],vS ga n n] 71,.cel ga (aR n T1) 64]:=HP.exchF (A:=[pE pb cq n cap b6 b4 (fjK K) ga,aE ga n T]) (B:=[]) (HP.startB hE.own) hbw20;have hF22:HP (Out [pE pb cq n cap b6 b4 (fjK K) ga,aE ga n T]) w w20 [pE pb cq n cap b6 b4 (fjK K) ga,aE ga n T1]:=hH21;have hM22:=HP.exch (A:=[]) hM0 hF22;have hE22:=hE.keep hF22;have hk22_r:=hE.tab hr hF22;have hH23:=HP.startB hE22.own;refine WL.z (.slice r1.q r1.t.length r1.c) 15 (WL.k hK19 (WC.sb [(0,vP pb 0),(1,vI (i:Int)),(2,vI (a:Int)),(3,vI (E:Int)),(4,.slice r.q r.t.length r.c),(10,.slice none 0 0),(15,.slice r1.q r1.t.length r1.c),(25,vI (c i)),(26,.bool false),(79,.bool false),(110,.bool true)] (WC.seq fun K24 hK24=>WC.region (WL.z (.slice r.q r.t.length r.c) 118 (WL.z (.slice r.q r.t.length r.c) 16 (WL.k hK24 ?_))))))
  refine WC.seq fun K25 hK25=>WC.seq fun K26 hK26=>WC.region (WL.z (vI (i:Int)) 119 (WL.y (vI ((i+1:Nat):Int)) 120 (x_ad (((i+1:Nat):Int))) (WL.z (vI ((i+1:Nat):Int)) 17 (WL.k hK26 (WC.block ?_)))));have hEt:=hE22;refine WC.loop (fun kk0 ll0 ww0=>∃ (v:Nat) (rc:TbI),ll0=[(0,vP pb 0),(2,vI (a:Int)),(3,vI (E:Int)),(4,.slice r.q r.t.length r.c),(15,.slice r1.q r1.t.length r1.c),(16,.slice rc.q rc.t.length rc.c),(17,vI (v:Int))]∧kk0=a-v∧(i+1≤v)∧(v≤a)∧(Fl.fold (opsK K s y l) (tabs T1) v (a-v) rc.t=Fl.fold (opsK K s y l) (tabs T1) (i+1) (a-(i+1)) r.t)∧(TbOk s y l m ww0 r)∧(TbOk s y l m ww0 r1)∧(TbOk s y l m ww0 rc)∧(∀ i,TbOk s y l m ww0 (T1 i))∧(HP (Out [pE pb cq n cap b6 b4 (fjK K) ga,aE ga n T1]) w20 ww0 [pE pb cq n cap b6 b4 (fjK K) ga,aE ga n T1])∧HP Tr ww0 ww0 []) (a-(i+1)) [(0,vP pb 0),(2,vI (a:Int)),(3,vI (E:Int)),(4,.slice r.q r.t.length r.c),(15,.slice r1.q r1.t.length r1.c),(16,.slice r.q r.t.length r.c),(17,vI ((i+1:Nat):Int))] ⟨rfl,rfl,rfl,rfl,rfl,rfl,rfl,trivial⟩ ⟨i+1,r,rfl,rfl,Nat.le_refl _,by omega,rfl,hk22_r,hr1,hk22_r,hT1,HP.startB hE22.own,HP.refl _⟩ ?_;rintro kk l w28 ⟨v,rc,rfl,hkk,hv1,hv2,hfo,hr3,hr4,hrc,hT3,hM2,hH29⟩ K27 hK27;have hE1:=hEt.keep hM2;have hMo:=HP.exch (A:=[]) hM22 hM2;have hH30:=HP.startB hE1.own;refine WC.seq fun K31 hK31=>WC.seq fun K32 hK32=>WC.region (WL.z (vI (v:Int)) 121 (WL.z (vI (a:Int)) 122 ?_));by_cases hlt:(v:Int)<(a:Int)
  ·
   refine WL.y (.bool true) 123 (x_lss rfl rfl rfl (dT (hlt))) (WL.k hK32 ?_);refine WC.yes rfl ?_;refine WC.skip (WQ.then (hK31 _ _ _ (WC.seq fun K33 hK33=>WC.block ?_)));refine WC.confH (γ:=Option Addr × Nat × Option Addr × Nat × Unit) [(123,.bool true),(122,vI (a:Int)),(121,vI (v:Int)),(0,vP pb 0),(2,vI (a:Int)),(3,vI (E:Int)),(4,.slice r.q r.t.length r.c),(15,.slice r1.q r1.t.length r1.c),(16,.slice rc.q rc.t.length rc.c),(17,vI (v:Int))] (fun gy=>[vP pb 0,vP pb 0,vP pb 2,.func (.func (fjK K)) #[] #[],.slice rc.q rc.t.length rc.c,vP pb 0,vP pb 0,vP pb 4,.func (.func 35) #[] #[],vI (v:Int),vP pb 0,vP pb 0,vP pb 1,.func (.func 33) #[] #[vP b6 0,vP b4 0],vI (v:Int),vP pb 0,vP pb 0,vP pb 5,vS ga n n,vI (v:Int),vP ga v,.slice ((T1 v).q) ((T1 v).t.length) ((T1 v).c),.slice gy.1 ((tcH s y ((v:Int)/l) (kK K) (T1 v).t).length) gy.2.1,.slice r.q r.t.length r.c,.slice gy.1 ((tcH s y ((v:Int)/l) (kK K) (T1 v).t).length) gy.2.1,.slice gy.2.2.1 ((jK K rc.t (tcH s y ((v:Int)/l) (kK K) (T1 v).t)).length) gy.2.2.2.1,.slice gy.2.2.1 ((jK K rc.t (tcH s y ((v:Int)/l) (kK K) (T1 v).t)).length) gy.2.2.2.1]) (fun gy D wz=>HP (Out [pE pb cq n cap b6 b4 (fjK K) ga,aE ga n T1]) w28 wz ([.cel pb #[.slice cq n cap,.func (.func 33) #[] #[vP b6 0,vP b4 0],.func (.func (fjK K)) #[] #[],.func (.func 34) #[] #[],.func (.func 35) #[] #[],vS ga n n] 71,.cel ga (aR n T1) 64]++((bif D 22 then [rowT gy.1 (tcH s y ((v:Int)/l) (kK K) (T1 v).t).length gy.2.1 (tcH s y ((v:Int)/l) (kK K) (T1 v).t)] else [])++((bif D 25 then [rowT gy.2.2.1 (jK K rc.t (tcH s y ((v:Int)/l) (kK K) (T1 v).t)).length gy.2.2.2.1 (jK K rc.t (tcH s y ((v:Int)/l) (kK K) (T1 v).t))] else [])++[])))) (none,0,none,0,()) (by kernel_rfl) ⟨rfl,rfl,rfl,rfl,rfl,rfl,rfl,rfl,rfl,rfl,trivial⟩ (by kernel_rfl) (by kernel_rfl) (by kernel_rfl) (fun _=>rfl) (by kernel_rfl) (HP.drew hH30) ?_ ?_
   ·
    refine AllOk.cons ?o0 (AllOk.cons ?o1 (AllOk.cons ?o2 (AllOk.cons ?o3 (AllOk.cons ?o4 (AllOk.cons ?o5 (AllOk.cons ?o6 (AllOk.cons ?o7 (AllOk.cons ?o8 (AllOk.cons ?o9 (AllOk.cons ?o10 (AllOk.cons ?o11 (AllOk.cons ?o12 (AllOk.cons ?o13 (AllOk.cons ?o14 (AllOk.cons ?o15 (AllOk.cons ?o16 (AllOk.cons ?o17 (AllOk.cons ?o18 (AllOk.cons ?o19 (AllOk.cons ?o20 (AllOk.cons ?o21 (AllOk.cons ?o22 (AllOk.cons ?o23 (AllOk.cons ?o24 (AllOk.cons ?o25 (AllOk.cons ?o26 (AllOk.nil _)))))))))))))))))))))))))))
    case o0 =>
     intro gy D wz hDi hdep hclo hW;exact cfv gy wz (by kernel_rfl) hW
    case o1 =>
     intro gy D wz hDi hdep hclo hW;exact cfv gy wz (by kernel_rfl) hW
    case o2 =>
     intro gy D wz hDi hdep hclo hW;exact cfv gy wz (by kernel_rfl) hW
    case o3 =>
     intro gy D wz hDi hdep hclo hW;exact cfv gy wz (x_load rfl rfl Tryz.underlying45 rfl (HP.cell hW 0 rfl rfl)) hW
    case o4 =>
     intro gy D wz hDi hdep hclo hW;exact cfv gy wz (by kernel_rfl) hW
    case o5 =>
     intro gy D wz hDi hdep hclo hW;exact cfv gy wz (by kernel_rfl) hW
    case o6 =>
     intro gy D wz hDi hdep hclo hW;exact cfv gy wz (by kernel_rfl) hW
    case o7 =>
     intro gy D wz hDi hdep hclo hW;exact cfv gy wz (by kernel_rfl) hW
    case o8 =>
     intro gy D wz hDi hdep hclo hW;exact cfv gy wz (x_load rfl rfl Tryz.underlying68 rfl (HP.cell hW 0 rfl rfl)) hW
    case o9 =>
     intro gy D wz hDi hdep hclo hW;exact cfv gy wz (by kernel_rfl) hW
    case o10 =>
     intro gy D wz hDi hdep hclo hW;exact cfv gy wz (by kernel_rfl) hW
    case o11 =>
     intro gy D wz hDi hdep hclo hW;exact cfv gy wz (by kernel_rfl) hW
    case o12 =>
     intro gy D wz hDi hdep hclo hW;exact cfv gy wz (by kernel_rfl) hW
    case o13 =>
     intro gy D wz hDi hdep hclo hW;exact cfv gy wz (x_load rfl rfl Tryz.underlying65 rfl (HP.cell hW 0 rfl rfl)) hW
    case o14 =>
     intro gy D wz hDi hdep hclo hW;exact cfv gy wz (by kernel_rfl) hW
    case o15 =>
     intro gy D wz hDi hdep hclo hW;exact cfv gy wz (by kernel_rfl) hW
    case o16 =>
     intro gy D wz hDi hdep hclo hW;exact cfv gy wz (by kernel_rfl) hW
    case o17 =>
     intro gy D wz hDi hdep hclo hW;exact cfv gy wz (by kernel_rfl) hW
    case o18 =>
     intro gy D wz hDi hdep hclo hW;exact cfv gy wz (x_load rfl rfl Tryz.underlying69 rfl (HP.cell hW 0 rfl rfl)) hW
    case o19 =>
     intro gy D wz hDi hdep hclo hW;exact cfv gy wz (by kernel_rfl) hW
    case o20 =>
     intro gy D wz hDi hdep hclo hW;exact cfv gy wz (x_ix (v) (v) Tryz.underlying69 sz64) hW
    case o21 =>
     intro gy D wz hDi hdep hclo hW;exact cfv gy wz (x_load rfl rfl Tryz.underlying64 rfl (HP.cell hW 1 rfl (aR_get (by omega)))) hW
    case o22 =>
     intro gy D wz hDi hdep hclo hW;have d24:D 24=false:=by
      cases h:D 24 with
      | false=>rfl
      | true=>exact absurd (hclo 24 _ rfl h ⟨22,.data⟩ (by simp) rfl) (by rw [hDi];exact Bool.false_ne_true)
     have d25:D 25=false:=by
      cases h:D 25 with
      | false=>rfl
      | true=>exact absurd (hclo 25 _ rfl h ⟨24,.data⟩ (by simp) rfl) (by rw [d24];exact Bool.false_ne_true)
     have hW2:=hW
     try simp only [d25,hDi,cond_true,cond_false,List.append_nil,List.nil_append,List.cons_append] at hW2
     refine .inl ⟨rfl,rfl,.inr (.inr ⟨33,#[vI (v:Int),.slice ((T1 v).q) ((T1 v).t.length) ((T1 v).c),vP b6 0,vP b4 0],by kernel_rfl,(doK_any K s y l m v (T1 v).q (T1 v).t (T1 v).c b6 b4 _ (hE1.keep hW2).how (hE1.keep hW2).geo (hE1.tab (hT3 v) hW2).inn (hT3 v).ok (by omega)).mono ?_⟩)⟩;rintro e w3 ⟨pvd,cpd,rfl,hbd⟩;have hA:=HP.trans hW2 hbd;refine⟨⟨pvd,cpd,gy.2.2.1,gy.2.2.2.1,()⟩,fun j hj=>?_,rfl,?_⟩
     ·
      match j,hj with
      | 0,hj=>rfl
      | 1,hj=>rfl
      | 2,hj=>rfl
      | 3,hj=>rfl
      | 4,hj=>rfl
      | 5,hj=>rfl
      | 6,hj=>rfl
      | 7,hj=>rfl
      | 8,hj=>rfl
      | 9,hj=>rfl
      | 10,hj=>rfl
      | 11,hj=>rfl
      | 12,hj=>rfl
      | 13,hj=>rfl
      | 14,hj=>rfl
      | 15,hj=>rfl
      | 16,hj=>rfl
      | 17,hj=>rfl
      | 18,hj=>rfl
      | 19,hj=>rfl
      | 20,hj=>rfl
      | 21,hj=>rfl
      | 22,hj=>rw [hDi] at hj;cases hj
      | 23,hj=>rfl
      | 24,hj=>exact absurd hj (by rw [d24];exact Bool.false_ne_true)
      | 25,hj=>rfl
      | 26,hj=>rfl
      | j+27,_=>rfl
     ·
      show HP (Out [pE pb cq n cap b6 b4 (fjK K) ga,aE ga n T1]) w28 w3 ([.cel pb #[.slice cq n cap,.func (.func 33) #[] #[vP b6 0,vP b4 0],.func (.func (fjK K)) #[] #[],.func (.func 34) #[] #[],.func (.func 35) #[] #[],vS ga n n] 71,.cel ga (aR n T1) 64]++([rowT pvd (tcH s y ((v:Int)/l) (kK K) (T1 v).t).length cpd (tcH s y ((v:Int)/l) (kK K) (T1 v).t)]++((bif D 25 then [rowT gy.2.2.1 (jK K rc.t (tcH s y ((v:Int)/l) (kK K) (T1 v).t)).length gy.2.2.2.1 (jK K rc.t (tcH s y ((v:Int)/l) (kK K) (T1 v).t))] else [])++[])))
      try simp only [d25,cond_true,cond_false,List.append_nil,List.nil_append,List.cons_append]
      exact hA
    case o23 =>
     intro gy D wz hDi hdep hclo hW;exact cfv gy wz (by kernel_rfl) hW
    case o24 =>
     intro gy D wz hDi hdep hclo hW;exact .inl ⟨rfl,rfl,.inr (.inr ⟨35,#[vI (v:Int),.slice gy.1 ((tcH s y ((v:Int)/l) (kK K) (T1 v).t).length) gy.2.1,.slice r.q r.t.length r.c],by kernel_rfl,(caught_any _ _ _ _).mono fun e w2 h=>⟨gy,fun _ _=>rfl,h.1,by rw [← h.2];exact hW⟩⟩)⟩
    case o25 =>
     intro gy D wz hDi hdep hclo hW;have d24:D 24=true:=hdep ⟨24,.data⟩ (by simp) rfl;have d22:D 22=true:=hclo 24 _ rfl d24 ⟨22,.data⟩ (by simp) rfl;have d26:D 26=false:=by
      cases h:D 26 with
      | false=>rfl
      | true=>exact absurd (hclo 26 _ rfl h ⟨25,.data⟩ (by simp) rfl) (by rw [hDi];exact Bool.false_ne_true)
     have hW2:=hW
     try simp only [d22,hDi,cond_true,cond_false,List.append_nil,List.nil_append,List.cons_append] at hW2
     have hdo:TbOk s y l m wz (⟨gy.1,(tcH s y ((v:Int)/l) (kK K) (T1 v).t),gy.2.1⟩:TbI):=⟨InT.own (HP.get hW2 2 rfl),VT_tc (hT3 v).ok (line_of (vG_iff.1 hg0).2.2.1 (by omega))⟩;refine .inl ⟨rfl,rfl,.inr (.inr ⟨(fjK K),#[.slice rc.q rc.t.length rc.c,.slice gy.1 ((tcH s y ((v:Int)/l) (kK K) (T1 v).t).length) gy.2.1],by cases K <;> kernel_rfl,(joinK_any K rc.q (⟨gy.1,(tcH s y ((v:Int)/l) (kK K) (T1 v).t),gy.2.1⟩:TbI).q rc.t (⟨gy.1,(tcH s y ((v:Int)/l) (kK K) (T1 v).t),gy.2.1⟩:TbI).t rc.c (⟨gy.1,(tcH s y ((v:Int)/l) (kK K) (T1 v).t),gy.2.1⟩:TbI).c _ (hE1.tab hrc hW2).inn hdo.inn (by have:=(hE1.tab hrc hW2).ok.len;omega) (by have:=hdo.ok.len;omega) (hE1.tab hrc hW2).ok.so hdo.ok.so).mono ?_⟩)⟩;rintro e w3 ⟨pvj,cpj,rfl,hbj⟩;have hA:=HP.trans hW2 hbj;refine⟨⟨gy.1,gy.2.1,pvj,cpj,()⟩,fun j hj=>?_,rfl,?_⟩
     ·
      match j,hj with
      | 0,hj=>rfl
      | 1,hj=>rfl
      | 2,hj=>rfl
      | 3,hj=>rfl
      | 4,hj=>rfl
      | 5,hj=>rfl
      | 6,hj=>rfl
      | 7,hj=>rfl
      | 8,hj=>rfl
      | 9,hj=>rfl
      | 10,hj=>rfl
      | 11,hj=>rfl
      | 12,hj=>rfl
      | 13,hj=>rfl
      | 14,hj=>rfl
      | 15,hj=>rfl
      | 16,hj=>rfl
      | 17,hj=>rfl
      | 18,hj=>rfl
      | 19,hj=>rfl
      | 20,hj=>rfl
      | 21,hj=>rfl
      | 22,hj=>rfl
      | 23,hj=>rfl
      | 24,hj=>rfl
      | 25,hj=>rw [hDi] at hj;cases hj
      | 26,hj=>exact absurd hj (by rw [d26];exact Bool.false_ne_true)
      | j+27,_=>rfl
     ·
      show HP (Out [pE pb cq n cap b6 b4 (fjK K) ga,aE ga n T1]) w28 w3 ([.cel pb #[.slice cq n cap,.func (.func 33) #[] #[vP b6 0,vP b4 0],.func (.func (fjK K)) #[] #[],.func (.func 34) #[] #[],.func (.func 35) #[] #[],vS ga n n] 71,.cel ga (aR n T1) 64]++((bif D 22 then [rowT gy.1 (tcH s y ((v:Int)/l) (kK K) (T1 v).t).length gy.2.1 (tcH s y ((v:Int)/l) (kK K) (T1 v).t)] else [])++([rowT pvj (jK K rc.t (tcH s y ((v:Int)/l) (kK K) (T1 v).t)).length cpj (jK K rc.t (tcH s y ((v:Int)/l) (kK K) (T1 v).t))]++[])))
      try simp only [d22,cond_true,cond_false,List.append_nil,List.nil_append,List.cons_append]
      exact hA
    case o26 =>
     intro gy D wz hDi hdep hclo hW;exact cfv gy wz (by kernel_rfl) hW
   rintro ⟨pvd,cpd,pvj,cpj,gu⟩ D w34 hall hH35;simp only [hall 22 (by kernel_rfl),hall 25 (by kernel_rfl),cond_true,List.append_nil,List.nil_append,List.cons_append] at hH35;clear hall;refine WQ.sb [(0,vP pb 0),(2,vI (a:Int)),(3,vI (E:Int)),(4,.slice r.q r.t.length r.c),(15,.slice r1.q r1.t.length r1.c),(16,.slice pvj ((jK K rc.t (tcH s y ((v:Int)/l) (kK K) (T1 v).t)).length) cpj),(17,vI (v:Int)),(123,.bool true)] ?_;have hcj:TbOk s y l m w34 (⟨pvj,(jK K rc.t (tcH s y ((v:Int)/l) (kK K) (T1 v).t)),cpj⟩:TbI):=⟨InT.own (HP.get hH35 3 rfl),VT_jK K hrc.ok (VT_tc (hT3 v).ok (line_of (vG_iff.1 hg0).2.2.1 (by omega)))⟩;have hF36:HP (Out [pE pb cq n cap b6 b4 (fjK K) ga,aE ga n T1]) w28 w34 [pE pb cq n cap b6 b4 (fjK K) ga,aE ga n T1]:=(HP.drop (HP.drop hH35 3) 2);have hM36:=HP.exch (A:=[]) hMo hF36;have hE36:=hE1.keep hF36;have hk36_r:=hE1.tab hr3 hF36;have hk36_r1:=hE1.tab hr4 hF36;have hk36_rc:=hE1.tab hrc hF36;have hT36:=fun i9=>hE1.tab (hT3 i9) hF36;have hH37:=HP.startB hE36.own;refine WQ.inNormal (WQ.then (hK33 _ _ _ (WC.region (WL.z (vI (v:Int)) 124 (WL.y (vI ((v+1:Nat):Int)) 125 (x_ad (((v+1:Nat):Int))) (WL.z (vI ((v+1:Nat):Int)) 17 (WL.nil (WQ.sb [(0,vP pb 0),(2,vI (a:Int)),(3,vI (E:Int)),(4,.slice r.q r.t.length r.c),(15,.slice r1.q r1.t.length r1.c),(16,.slice pvj ((jK K rc.t (tcH s y ((v:Int)/l) (kK K) (T1 v).t)).length) cpj),(17,vI ((v+1:Nat):Int))] ?_))))))));refine WQ.then (hK27 _ _ _ (by omega) ⟨v+1,(⟨pvj,(jK K rc.t (tcH s y ((v:Int)/l) (kK K) (T1 v).t)),cpj⟩:TbI),rfl,rfl,by omega,by omega,(fold_step (O:=(opsK K s y l)) (ah:=tabs T1) (a:=a) (v:=v) (x:=rc.t) (by omega)).symm.trans hfo,hk36_r,hk36_r1,hcj,hT36,HP.exch (A:=[]) hM2 hF36,HP.refl _⟩)
  ·
   refine WL.y (.bool false) 123 (x_lss rfl rfl rfl (dF (hlt))) (WL.k hK32 ?_);refine WC.no rfl ?_;refine WC.exit (WQ.thenExit (WQ.thenExit (WQ.inExit (WQ.then (hK25 _ _ _ (WC.seq fun K38 hK38=>?_))))));have hfo2:Fl.fold (opsK K s y l) (tabs T1) (i+1) (a-(i+1)) r.t=rc.t:=(by rw [← hfo,fold_end (by omega)]);refine WC.confG (γ:=TbI × (Nat→TbI) × Option Addr × Nat × Unit) [(123,.bool false),(122,vI (a:Int)),(121,vI (v:Int)),(0,vP pb 0),(2,vI (a:Int)),(3,vI (E:Int)),(4,.slice r.q r.t.length r.c),(15,.slice r1.q r1.t.length r1.c),(16,.slice rc.q rc.t.length rc.c),(17,vI (v:Int))] (fun gy=>[vP pb 0,vP pb 0,vP pb 2,.func (.func (fjK K)) #[] #[],.slice r1.q r1.t.length r1.c,vP pb 0,vI (a:Int),vI ((a+1:Nat):Int),vI (E:Int),.slice rc.q rc.t.length rc.c,.slice gy.1.q gy.1.t.length gy.1.c,.slice gy.2.2.1 ((jK K r1.t gy.1.t).length) gy.2.2.2.1,.slice gy.2.2.1 ((jK K r1.t gy.1.t).length) gy.2.2.2.1]) (fun gy D wz=>HP (Out [pE pb cq n cap b6 b4 (fjK K) ga,aE ga n T1]) w28 wz ([.cel pb #[.slice cq n cap,.func (.func 33) #[] #[vP b6 0,vP b4 0],.func (.func (fjK K)) #[] #[],.func (.func 34) #[] #[],.func (.func 35) #[] #[],vS ga n n] 71,(bif D 10 then Ent.cel ga (aR n gy.2.1) 64 else Ent.cel ga (aR n T1) 64)]++((bif D 11 then [rowT gy.2.2.1 (jK K r1.t gy.1.t).length gy.2.2.2.1 (jK K r1.t gy.1.t)] else [])++[]))∧(D 10=true→(TbOk s y l m wz gy.1∧(∀ i9,TbOk s y l m wz (gy.2.1 i9))∧(gy.1.t,tabs gy.2.1)=Fl.last (opsK K s y l) (Fl.sol (opsK K s y l) (cdOf c n) Rb) E rc.t (tabs T1)))) (⟨none,[],0⟩,(fun _=>⟨none,[],0⟩),none,0,()) (by kernel_rfl) ⟨rfl,rfl,rfl,rfl,rfl,rfl,rfl,rfl,rfl,rfl,trivial⟩ (by kernel_rfl) (by kernel_rfl) (by kernel_rfl) (fun _=>rfl) (by kernel_rfl) (⟨HP.drew hH30,(fun h=>by cases h)⟩) ?_ ?_
   ·
    refine AllOk.cons ?o0 (AllOk.cons ?o1 (AllOk.cons ?o2 (AllOk.cons ?o3 (AllOk.cons ?o4 (AllOk.cons ?o5 (AllOk.cons ?o6 (AllOk.cons ?o7 (AllOk.cons ?o8 (AllOk.cons ?o9 (AllOk.cons ?o10 (AllOk.cons ?o11 (AllOk.cons ?o12 (AllOk.nil _)))))))))))))
    case o0 =>
     rintro gy D wz hDi hdep hclo ⟨hW,hX0⟩;exact cfv gy wz (by kernel_rfl) ⟨hW,hX0⟩
    case o1 =>
     rintro gy D wz hDi hdep hclo ⟨hW,hX0⟩;exact cfv gy wz (by kernel_rfl) ⟨hW,hX0⟩
    case o2 =>
     rintro gy D wz hDi hdep hclo ⟨hW,hX0⟩;exact cfv gy wz (by kernel_rfl) ⟨hW,hX0⟩
    case o3 =>
     rintro gy D wz hDi hdep hclo ⟨hW,hX0⟩;exact cfv gy wz (x_load rfl rfl Tryz.underlying45 rfl (HP.cell hW 0 rfl rfl)) ⟨hW,hX0⟩
    case o4 =>
     rintro gy D wz hDi hdep hclo ⟨hW,hX0⟩;exact cfv gy wz (by kernel_rfl) ⟨hW,hX0⟩
    case o5 =>
     rintro gy D wz hDi hdep hclo ⟨hW,hX0⟩;exact cfv gy wz (by kernel_rfl) ⟨hW,hX0⟩
    case o6 =>
     rintro gy D wz hDi hdep hclo ⟨hW,hX0⟩;exact cfv gy wz (by kernel_rfl) ⟨hW,hX0⟩
    case o7 =>
     rintro gy D wz hDi hdep hclo ⟨hW,hX0⟩;exact cfv gy wz (x_ad (((a+1:Nat):Int))) ⟨hW,hX0⟩
    case o8 =>
     rintro gy D wz hDi hdep hclo ⟨hW,hX0⟩;exact cfv gy wz (by kernel_rfl) ⟨hW,hX0⟩
    case o9 =>
     rintro gy D wz hDi hdep hclo ⟨hW,hX0⟩;exact cfv gy wz (by kernel_rfl) ⟨hW,hX0⟩
    case o10 =>
     rintro gy D wz hDi hdep hclo ⟨hW,hX0⟩;have d11:D 11=false:=by
      cases h:D 11 with
      | false=>rfl
      | true=>exact absurd (hclo 11 _ rfl h ⟨10,.data⟩ (by simp) rfl) (by rw [hDi];exact Bool.false_ne_true)
     have d12:D 12=false:=by
      cases h:D 12 with
      | false=>rfl
      | true=>exact absurd (hclo 12 _ rfl h ⟨10,.phase⟩ (by simp) rfl) (by rw [hDi];exact Bool.false_ne_true)
     have hW2:=hW
     try simp only [d11,hDi,cond_true,cond_false,List.append_nil,List.nil_append,List.cons_append] at hW2
     refine .inl ⟨rfl,rfl,.inr (.inr ⟨96,#[vP pb 0,vI ((a+1:Nat):Int),vI (E:Int),.slice rc.q rc.t.length rc.c],by kernel_rfl,(lastK_any K s y l m pb cq n cap b6 b4 ga c A B hg0 hn9 (a+1) E Rb hlb (by omega) _ T1 _ (hE1.keep hW2) (hE1.tab hrc hW2) (fun i9=>hE1.tab (hT3 i9) hW2)).mono ?_⟩)⟩;rintro e w3 ⟨r2,T2,rfl,hb9,hr9,hT9,hX9⟩;have hA:=HP.exchF (A:=[pE pb cq n cap b6 b4 (fjK K) ga,aE ga n T1]) (B:=[]) hW2 hb9;refine⟨⟨r2,T2,gy.2.2.1,gy.2.2.2.1,()⟩,fun j hj=>?_,rfl,⟨?_,fun _=>⟨hr9,hT9,hX9⟩⟩⟩
     ·
      match j,hj with
      | 0,hj=>rfl
      | 1,hj=>rfl
      | 2,hj=>rfl
      | 3,hj=>rfl
      | 4,hj=>rfl
      | 5,hj=>rfl
      | 6,hj=>rfl
      | 7,hj=>rfl
      | 8,hj=>rfl
      | 9,hj=>rfl
      | 10,hj=>rw [hDi] at hj;cases hj
      | 11,hj=>exact absurd hj (by rw [d11];exact Bool.false_ne_true)
      | 12,hj=>exact absurd hj (by rw [d12];exact Bool.false_ne_true)
      | j+13,_=>rfl
     ·
      show HP (Out [pE pb cq n cap b6 b4 (fjK K) ga,aE ga n T1]) w28 w3 ([.cel pb #[.slice cq n cap,.func (.func 33) #[] #[vP b6 0,vP b4 0],.func (.func (fjK K)) #[] #[],.func (.func 34) #[] #[],.func (.func 35) #[] #[],vS ga n n] 71,Ent.cel ga (aR n T2) 64]++((bif D 11 then [rowT gy.2.2.1 (jK K r1.t r2.t).length gy.2.2.2.1 (jK K r1.t r2.t)] else [])++[]))
      try simp only [d11,cond_true,cond_false,List.append_nil,List.nil_append,List.cons_append]
      exact hA
    case o11 =>
     rintro gy D wz hDi hdep hclo ⟨hW,hX0⟩;have d10:D 10=true:=hdep ⟨10,.data⟩ (by simp) rfl;have d12:D 12=false:=by
      cases h:D 12 with
      | false=>rfl
      | true=>exact absurd (hclo 12 _ rfl h ⟨11,.data⟩ (by simp) rfl) (by rw [hDi];exact Bool.false_ne_true)
     have hW2:=hW
     try simp only [d10,hDi,cond_true,cond_false,List.append_nil,List.nil_append,List.cons_append] at hW2
     refine .inl ⟨rfl,rfl,.inr (.inr ⟨(fjK K),#[.slice r1.q r1.t.length r1.c,.slice gy.1.q gy.1.t.length gy.1.c],by cases K <;> kernel_rfl,(joinK_any K r1.q gy.1.q r1.t gy.1.t r1.c gy.1.c _ (hE1.tab hr4 hW2).inn (hX0 d10).1.inn (by have:=(hE1.tab hr4 hW2).ok.len;omega) (by have:=(hX0 d10).1.ok.len;omega) (hE1.tab hr4 hW2).ok.so (hX0 d10).1.ok.so).mono ?_⟩)⟩;rintro e w3 ⟨pvj,cpj,rfl,hbj⟩;have hA:=HP.trans hW2 hbj;refine⟨⟨gy.1,gy.2.1,pvj,cpj,()⟩,fun j hj=>?_,rfl,⟨?_,fun h9=>⟨(hX0 h9).1.below (HP.below hbj),(fun i9=>((hX0 h9).2.1 i9).below (HP.below hbj)),(hX0 h9).2.2⟩⟩⟩
     ·
      match j,hj with
      | 0,hj=>rfl
      | 1,hj=>rfl
      | 2,hj=>rfl
      | 3,hj=>rfl
      | 4,hj=>rfl
      | 5,hj=>rfl
      | 6,hj=>rfl
      | 7,hj=>rfl
      | 8,hj=>rfl
      | 9,hj=>rfl
      | 10,hj=>rfl
      | 11,hj=>rw [hDi] at hj;cases hj
      | 12,hj=>exact absurd hj (by rw [d12];exact Bool.false_ne_true)
      | j+13,_=>rfl
     ·
      show HP (Out [pE pb cq n cap b6 b4 (fjK K) ga,aE ga n T1]) w28 w3 ([.cel pb #[.slice cq n cap,.func (.func 33) #[] #[vP b6 0,vP b4 0],.func (.func (fjK K)) #[] #[],.func (.func 34) #[] #[],.func (.func 35) #[] #[],vS ga n n] 71,(bif D 10 then Ent.cel ga (aR n gy.2.1) 64 else Ent.cel ga (aR n T1) 64)]++([rowT pvj (jK K r1.t gy.1.t).length cpj (jK K r1.t gy.1.t)]++[]))
      try simp only [d10,cond_true,cond_false,List.append_nil,List.nil_append,List.cons_append]
      exact hA
    case o12 =>
     rintro gy D wz hDi hdep hclo ⟨hW,hX0⟩;exact cfv gy wz (by kernel_rfl) ⟨hW,hX0⟩
   rintro ⟨r2,T2,pvj,cpj,gu⟩ D w39 hall ⟨hH40,hX0⟩;have hOr2:=hX0 (hall 10 (by kernel_rfl));clear hX0;simp only [hall 10 (by kernel_rfl),hall 11 (by kernel_rfl),cond_true,List.append_nil,List.nil_append,List.cons_append] at hH40;clear hall;refine WQ.sb [(0,vP pb 0),(2,vI (a:Int)),(3,vI (E:Int)),(4,.slice r.q r.t.length r.c),(10,.slice pvj ((jK K r1.t r2.t).length) cpj),(15,.slice r1.q r1.t.length r1.c),(16,.slice rc.q rc.t.length rc.c),(17,vI (v:Int)),(123,.bool false)] ?_;obtain⟨hr2,hT2,hXr2⟩:=hOr2;have hj:TbOk s y l m w39 (⟨pvj,(jK K r1.t r2.t),cpj⟩:TbI):=⟨InT.own (HP.get hH40 2 rfl),VT_jK K hr4.ok hr2.ok⟩;have hF41:HP (Out [pE pb cq n cap b6 b4 (fjK K) ga,aE ga n T1]) w28 w39 [pE pb cq n cap b6 b4 (fjK K) ga,aE ga n T2]:=(HP.drop hH40 2);have hM41:=HP.exch (A:=[]) hMo hF41;have hE41:=hE1.keep hF41;have hk41_r:=hE1.tab hr3 hF41;have hk41_r1:=hE1.tab hr4 hF41;have hk41_rc:=hE1.tab hrc hF41;have hH42:=HP.startB hE41.own;refine WQ.then (hK38 _ _ _ (WC.ret ?_));refine WQ.inRet ?_;refine WQ.thenRet ?_;refine WQ.ret1 10 rfl rfl ?_;refine⟨⟨pvj,(jK K r1.t r2.t),cpj⟩,T2,rfl,hM41,hj,hT2,?_⟩;unfold brkA;rw [if_neg (show ¬ (cdOf c n).c i=29 from h29),← hXr1,hfo2];rw [← hXr2]
   rfl
end Ca
end Go.Proofs.YtmjnakhpekbenaaGreat
namespace Go.Proofs.YtmjnakhpekbenaaGreat
open Go.RowKit Fw
namespace Ca
theorem br_allK (K:Bool) (s y l m:Int) (pb:Nat) (cq:Option Addr) (n cap b6 b4 ga:Nat) (c A B:Nat→Int) (hg0:vG s y l m=true) (hn9:n≤400) (hc:Ec.chk c A B false n=0):∀ (R:Fl.Tr) (k j:Nat),Fl.Is (cdOf c n) R k j→j≤n→BrAll (BrPK K s y l m pb cq n cap b6 b4 ga c A B) (BrAK K s y l m pb cq n cap b6 b4 ga c A B) R
  | .nil,k,j,h,hj=>trivial
  | .one i r,k,j,h,hj=>br_allK K s y l m pb cq n cap b6 b4 ga c A B hg0 hn9 hc r (k+1) j h.2.2 hj
  | .plain i E b r,k,j,h,hj=>by
    obtain⟨h1,h2,h3,h4,h5,h6,h7,h8⟩:=h;subst h1;have h9:=h8.le;have h10:=h7.le;have hb:=br_allK K s y l m pb cq n cap b6 b4 ga c A B hg0 hn9 hc b _ _ h7 (by omega);exact⟨fun w T r' hE hr hT=>brPK_any K s y l m pb cq n cap b6 b4 ga c A B hg0 hn9 i E b h2 (by omega) (by omega) (fun w T r hE hr hT=>listK_any K s y l m pb cq n cap b6 b4 ga c A B hg0 hc b (i+1) E h7 (by omega) hb w T r hE hr hT) w T r' hE hr hT,br_allK K s y l m pb cq n cap b6 b4 ga c A B hg0 hn9 hc r _ _ h8 hj⟩
  | .alt i a E b1 b2 r,k,j,h,hj=>by
    obtain⟨h1,h2,h3,h4,h5,h6,h7,h8,h9,h10,h11⟩:=h;subst h1;have h12:=h9.le;have h13:=h10.le;have h14:=h11.le;have hb1:=br_allK K s y l m pb cq n cap b6 b4 ga c A B hg0 hn9 hc b1 _ _ h9 (by omega);have hb2:=br_allK K s y l m pb cq n cap b6 b4 ga c A B hg0 hn9 hc b2 _ _ h10 (by omega);exact⟨fun w T r' hE hr hT=>brAK_any K s y l m pb cq n cap b6 b4 ga c A B hg0 hn9 i a E b1 b2 h2 (by omega) (by omega) (by omega) (fun w T r hE hr hT=>listK_any K s y l m pb cq n cap b6 b4 ga c A B hg0 hc b1 (i+1) a h9 (by omega) hb1 w T r hE hr hT) (fun w T r hE hr hT=>listK_any K s y l m pb cq n cap b6 b4 ga c A B hg0 hc b2 (a+1) E h10 (by omega) hb2 w T r hE hr hT) w T r' hE hr hT,br_allK K s y l m pb cq n cap b6 b4 ga c A B hg0 hn9 hc r _ _ h11 hj⟩
noncomputable def trC (c:Nat→Int) (n:Nat):Fl.Tr:=open Classical in if h:∃ R,Fl.Is (cdOf c n) R 0 n then Classical.choose h else .nil
theorem trC_is {c A B:Nat→Int} {n:Nat} (h:Ec.chk c A B false n=0):Fl.Is (cdOf c n) (trC c n) 0 n:=by
  have h1:=is_tree h;unfold trC;rw [dif_pos h1];exact Classical.choose_spec h1
theorem hRK (K:Bool) {s y l m:Int} {n:Nat} {c A B:Nat→Int} (hn:n≤400) (h:okC s y l m c A B n=true):Fl.Is (cdOf c n) (trC c n) 0 n∧∀ (pb:Nat) (cq:Option Addr) (cap b6 b4 ga:Nat),BrAll (BrPK K s y l m pb cq n cap b6 b4 ga c A B) (BrAK K s y l m pb cq n cap b6 b4 ga c A B) (trC c n):=by
  obtain⟨h1,h2,h3⟩:=okC_iff.1 h;exact⟨trC_is h2,fun pb cq cap b6 b4 ga=>br_allK K s y l m pb cq n cap b6 b4 ga c A B h1 hn h2 _ 0 n (trC_is h2) (Nat.le_refl _)⟩
theorem hR0 {s y l m:Int} {n:Nat} {c A B:Nat→Int} (hn:n≤400) (h:okC s y l m c A B n=true):Fl.Is (cdOf c n) (trC c n) 0 n∧∀ (pb:Nat) (cq:Option Addr) (cap b6 b4 ga:Nat),BrAll (BrP0 s y l m pb cq n cap b6 b4 ga c A B) (BrA0 s y l m pb cq n cap b6 b4 ga c A B) (trC c n):=hRK false hn h
theorem hR1 {s y l m:Int} {n:Nat} {c A B:Nat→Int} (hn:n≤400) (h:okC s y l m c A B n=true):Fl.Is (cdOf c n) (trC c n) 0 n∧∀ (pb:Nat) (cq:Option Addr) (cap b6 b4 ga:Nat),BrAll (BrP1 s y l m pb cq n cap b6 b4 ga c A B) (BrA1 s y l m pb cq n cap b6 b4 ga c A B) (trC c n):=hRK true hn h
theorem MustA (s y l m:Int) (p:Option Addr) (n cap:Nat) (c A B:Nat→Int) (w:World) (hIn:Ec.InC w p n c A B) (hn:n≤400) :
    Calls Tryz.prog 6 #[.agg #[vI s,vI y,vI l,vI m],.slice p n cap] w (MarkR0 s y l m c A B n (trC c n) w):=Must_any s y l m p n cap c A B (trC c n) (hR0 hn) w hIn hn
end Ca
end Go.Proofs.YtmjnakhpekbenaaGreat
namespace Go.Proofs.YtmjnakhpekbenaaGreat
open Go.RowKit Fw Go.ChangeShapes Go.WideShapes
namespace Ca
theorem okSt_nil {s y l m:Int} (h:vG s y l m=true):okSt s y l m (stX (nilS s.toNat))=true:=by
  obtain⟨hs,hy,-,-⟩:=vG_iff.1 h;refine okSt_iff.2 ⟨h,by rw [stX_len];simp;omega,fun k hk=>?_⟩;have e:(stX (nilS s.toNat)).getD k []=[]:=by
    simp only [stX,List.map_replicate,List.getD_eq_getElem?_getD,List.getElem?_replicate];split <;> rfl
  rw [e];exact okR_iff.2 ⟨by simp;omega,fun i hi=>absurd hi (by simp)⟩
end Ca
end Go.Proofs.YtmjnakhpekbenaaGreat
namespace Go.Proofs.YtmjnakhpekbenaaGreat
open Go.RowKit Fw
namespace Ca
theorem tmod_k {x s:Int} (hx:0≤x) (hs:1≤s):∃ k:Nat,x.tmod s=(k:Int)∧(k:Int)<s:=by
  have h1:x.tmod s=x % s:=Int.tmod_eq_emod_of_nonneg hx;have h2:=Int.emod_nonneg x (show s≠0 by omega);have h3:=Int.emod_lt_of_pos x (show 0<s by omega);exact⟨(x % s).toNat,by rw [h1];omega,by omega⟩
end Ca
end Go.Proofs.YtmjnakhpekbenaaGreat
namespace Go.Proofs.YtmjnakhpekbenaaGreat
open Fw
namespace Ca
theorem plcV_at {xs:List Int} (hn:xs.Nodup) {z:Int} {p:Nat} (h:xs[p]?=some z):plcV z xs=(p:Int):=by
  have hp:=(List.getElem?_eq_some_iff.1 h).1;have hz:=(List.getElem?_eq_some_iff.1 h).2;have e:plc z xs=some p:=plc_some hp (by rw [List.getD_eq_getElem?_getD,h];rfl) fun i hi=>by
    rw [List.getD_eq_getElem?_getD,List.getElem?_eq_getElem (by omega)];simp only [Option.getD_some];intro q;have:=(List.nodup_iff_pairwise_ne.1 hn);have:=List.pairwise_iff_getElem.1 this i p (by omega) hp hi;exact this (by rw [q,hz])
  unfold plcV;rw [e]
theorem plcV_in {xs:List Int} {z:Int} (h:0≤plcV z xs):∃ p:Nat,plcV z xs=(p:Int)∧xs[p]?=some z:=by
  rcases plc_spec z xs with ⟨h1,-⟩ | ⟨k,h1,h2,h3,-⟩
  · unfold plcV at h;rw [h1] at h;exact absurd h (by decide)
  · refine ⟨k, by unfold plcV; rw [h1], ?_⟩
    rw [List.getD_eq_getElem?_getD,List.getElem?_eq_getElem h2] at h3;rw [List.getElem?_eq_getElem h2];simpa using h3
theorem filter_at {xs:List Int} (hn:xs.Nodup) {x:Int} {px:Nat} (h:xs[px]?=some x) (j:Nat):(xs.filter fun z=>z != x)[j]?=if j<px then xs[j]? else xs[j+1]?:=by
  have hp:=(List.getElem?_eq_some_iff.1 h).1;rw [← erase_eq hn hp (by rw [List.getD_eq_getElem?_getD,h];rfl),List.getElem?_eraseIdx]
theorem filter_no {xs:List Int} {x:Int} (h:x ∉ xs):(xs.filter fun z=>z != x)=xs:=filter_self h
theorem mem_or {xs:List Int} (x:Int):x ∉ xs∨∃ px:Nat,xs[px]?=some x:=by
  by_cases h:x∈xs
  · exact .inr (List.mem_iff_getElem?.1 h)
  · exact .inl h
theorem tc_fwd {xs:List Int} {y x z:Int} {p:Nat} (hn:xs.Nodup) (hl:(xs.length:Int)≤y) (hy:1≤y) (hz:z≠x) (h:xs[p]?=some z) :
    (∀ px:Nat,xs[px]?=some x→(p<px→(tcF y x xs)[p+1]?=some z)∧(px<p→(tcF y x xs)[p]?=some z))∧(x ∉ xs→(p:Int)<y-1→(tcF y x xs)[p+1]?=some z):=by
  have hp:=(List.getElem?_eq_some_iff.1 h).1;refine⟨fun px hx=>?_,fun hx hpy=>?_⟩
  · have hpx := (List.getElem?_eq_some_iff.1 hx).1
    constructor
    · intro hlt
      unfold tcF;rw [List.getElem?_cons_succ,List.getElem?_take,if_pos (by omega),filter_at hn hx,if_pos hlt];exact h
    · intro hlt
      unfold tcF;obtain⟨q,rfl⟩:∃ q,p=q+1:=⟨p-1,by omega⟩;rw [List.getElem?_cons_succ,List.getElem?_take,if_pos (by omega),filter_at hn hx,if_neg (by omega)];exact h
  · unfold tcF
    rw [List.getElem?_cons_succ,List.getElem?_take,if_pos (by omega),filter_no hx];exact h
theorem tc_bwd {xs:List Int} {y x z:Int} {q:Nat} (hn:xs.Nodup) (h:(tcF y x xs)[q+1]?=some z) :
    (q:Int)+1<y∧((x ∉ xs∧xs[q]?=some z)∨∃ px:Nat,xs[px]?=some x∧((q<px∧xs[q]?=some z)∨(px≤q∧xs[q+1]?=some z))):=by
  unfold tcF at h;rw [List.getElem?_cons_succ,List.getElem?_take] at h;split at h
  · rename_i hq
    refine⟨by omega,?_⟩;rcases mem_or (xs:=xs) x with hx | ⟨px,hx⟩
    · rw [filter_no hx] at h
      exact .inl ⟨hx,h⟩
    · rw [filter_at hn hx] at h
      split at h
      · rename_i hlt;exact .inr ⟨px,hx,.inl ⟨hlt,h⟩⟩
      · rename_i hlt;exact .inr ⟨px,hx,.inr ⟨by omega,h⟩⟩
  · cases h
theorem tcF_nodup {xs:List Int} {y x:Int} (hn:xs.Nodup):(tcF y x xs).Nodup:=by
  unfold tcF;refine List.nodup_cons.2 ⟨fun h=>?_,List.Nodup.sublist (List.take_sublist _ _) (List.Nodup.sublist List.filter_sublist hn)⟩;have:=(List.mem_filter.1 (List.mem_of_mem_take h)).2;simp at this
def mustP (s:Int) (X:List (List Int)) (t:List T2):Prop:=∀ z c,ageT t z=some c→0≤plcV z (X.getD (z.tmod s).toNat [])∧plcV z (X.getD (z.tmod s).toNat [])≤c
def mayP (y:Int) (X:List (List Int)) (u:List T2):Prop:=∀ k,k<X.length→∀ (i:Nat) z,(X.getD k [])[i]?=some z→(ageT u z).getD y≤(i:Int)
section
variable {s y l m : Int}
theorem row_ok {X:List (List Int)} (h:okSt s y l m X=true) {k:Nat} (hk:k<X.length):((X.getD k []).length:Int)≤y∧(∀ x∈X.getD k [],(0≤x∧x≤999)∧x.tmod s=(k:Int))∧(X.getD k []).Nodup :=
  okR_iff2.1 ((okSt_iff.1 h).2.2 k hk)
theorem stp_row {X:List (List Int)} {a:Int} (h:okSt s y l m X=true) (ha:0≤a∧a≤999) (k:Nat) (hk:k<X.length) :
    (stp s y l a X).getD k []=if k=setN s l a then tcF y (a/l) (X.getD k []) else X.getD k []:=by
  obtain⟨h1,h2,h3⟩:=okSt_iff.1 h;obtain⟨hs,hy,hl,-⟩:=vG_iff.1 h1;obtain⟨e1,e2⟩:=setN_spec hs hl ha;unfold stp;by_cases e:k=setN s l a
  · rw [if_pos e,← e,getD_set_eq hk,tcX_eq (h3 k hk) hy.1]
  · rw [if_neg e,getD_set_ne (fun q=>e q.symm)]
theorem must_touch {X:List (List Int)} {t:List T2} {a:Int} (h:okSt s y l m X=true) (hV:VT s y l m t) (ha:0≤a∧a≤999) (hm:mustP s X t):mustP s (stp s y l a X) (tcH s y (a/l) 0 t):=by
  obtain⟨h1,h2,h3⟩:=okSt_iff.1 h;obtain⟨hs,hy,hl,-⟩:=vG_iff.1 h1;obtain⟨e1,e2⟩:=setN_spec hs hl ha;have hK:setN s l a<X.length:=(by omega);intro z c hc;rw [age_tc hV] at hc;unfold agA at hc;by_cases hz:z=a/l
  · rw [if_pos hz] at hc; cases hc
    subst hz;rw [e1,Int.toNat_natCast,stp_row h ha _ hK,if_pos rfl];have hp:plcV (a/l) (tcF y (a/l) (X.getD (setN s l a) []))=((0:Nat):Int):=plcV_at (tcF_nodup (row_ok h hK).2.2) rfl;rw [hp];omega
  · rw [if_neg hz] at hc
    obtain⟨c0,g1,g2⟩:=Option.bind_eq_some_iff.1 hc;obtain⟨b1,b2⟩:=hm z c0 g1;have hzr:=(hV.age g1).1;obtain⟨k,hk,hks⟩:=tmod_k hzr.1 hs.1;rw [hk,Int.toNat_natCast] at b1 b2 ⊢;have hkl:k<X.length:=(by omega);rw [stp_row h ha k hkl];unfold agS at g2;by_cases hkk:k=setN s l a
    · rw [if_pos hkk]
      rw [if_pos (by rw [hk,e1,hkk])] at g2;obtain⟨p,hp1,hp2⟩:=plcV_in b1;rw [hp1] at b2;obtain⟨r1,-,r3⟩:=row_ok h hkl;have hfw:=tc_fwd (y:=y) (x:=a/l) r3 r1 hy.1 hz hp2;have hnd:=tcF_nodup (y:=y) (x:=a/l) r3;simp only [Int.add_zero] at g2;split at g2
      · rename_i hlt
        cases g2;rcases mem_or (xs:=X.getD k []) (a/l) with hx | ⟨px,hx⟩
        ·
          have hno:ageT t (a/l)=none:=by
            cases q:ageT t (a/l) with
            | none=>rfl
            | some d =>
              have q2:=(hm _ _ q).1;rw [e1,Int.toNat_natCast,← hkk] at q2;obtain⟨px,-,hpx⟩:=plcV_in q2;exact absurd (List.mem_of_getElem? hpx) hx
          rw [hno] at hlt ⊢;have hc0:=(hV.age g1).2;have e9:bmp ((none:Option Int).getD y) c0=c0+1:=(by unfold bmp;rw [if_pos (by simp;omega)]);rw [e9] at hlt ⊢;have:=plcV_at hnd (hfw.2 hx (by omega));rw [this];omega
        · have hd:∀ d,ageT t (a/l)=some d→(px:Int)≤d:=fun d q=>by
            have q2:=hm _ _ q;rw [e1,Int.toNat_natCast,← hkk] at q2;rw [plcV_at r3 hx] at q2;exact q2.2
          have hne:p≠px:=fun q=>hz (by rw [q,hx] at hp2;cases hp2;rfl);rcases Nat.lt_or_gt_of_ne hne with hlt2 | hgt
          · rw [plcV_at hnd ((hfw.1 px hx).1 hlt2)]
            have hc0:=(hV.age g1).2;refine⟨by omega,?_⟩;unfold bmp;split
            · omega
            · rename_i hge
              cases q:ageT t (a/l) with
              | none=>rw [q] at hge;simp at hge;omega
              | some d=>rw [q] at hge;have:=hd d q;simp at hge;omega
          · rw [plcV_at hnd ((hfw.1 px hx).2 hgt)]
            refine⟨by omega,?_⟩;unfold bmp;split <;> omega
      · cases g2
    · rw [if_neg hkk]
      rw [if_neg (by rw [hk,e1];omega)] at g2;split at g2
      · cases g2;exact⟨b1,b2⟩
      · cases g2
theorem may_touch {X:List (List Int)} {u:List T2} {a:Int} (h:okSt s y l m X=true) (hV:VT s y l m u) (ha:0≤a∧a≤999) (hm:mayP y X u):mayP y (stp s y l a X) (tcH s y (a/l) 1 u):=by
  obtain⟨h1,h2,h3⟩:=okSt_iff.1 h;obtain⟨hs,hy,hl,-⟩:=vG_iff.1 h1;obtain⟨e1,e2⟩:=setN_spec hs hl ha;intro k hk i z hz;rw [stp_length] at hk;rw [stp_row h ha k hk] at hz;obtain⟨r1,r2,r3⟩:=row_ok h hk;rw [age_tc hV];unfold agA;by_cases hkk:k=setN s l a
  · rw [if_pos hkk] at hz
    by_cases hzx:z=a/l
    · rw [if_pos hzx];simp
    · rw [if_neg hzx]
      cases i with
      | zero=>exact absurd (by unfold tcF at hz;simpa using hz.symm) hzx
      | succ q =>
        obtain⟨hqy,hpos⟩:=tc_bwd r3 hz;have key:∃ p:Nat,(X.getD k [])[p]?=some z∧(p=q∨(p=q+1∧∃ px:Nat,px≤q∧(X.getD k [])[px]?=some (a/l))):=by
          rcases hpos with ⟨-,g⟩ | ⟨px,hx,⟨-,g⟩ | ⟨g1,g2⟩⟩
          · exact⟨q,g,.inl rfl⟩
          · exact⟨q,g,.inl rfl⟩
          · exact⟨q+1,g2,.inr ⟨rfl,px,g1,hx⟩⟩
        obtain⟨p,hp,hq⟩:=key;have hpl:=(List.getElem?_eq_some_iff.1 hp).1;have hzm:=(r2 z (List.mem_of_getElem? hp)).2;have hage:=hm k hk p z hp;cases q9:ageT u z with
        | none=>rw [q9] at hage;simp at hage;omega
        | some c =>
          rw [q9] at hage;simp only [Option.getD_some] at hage;rw [Option.bind_some];unfold agS;rw [if_pos (by rw [hzm,e1,hkk])];have hb:bmp ((ageT u (a/l)).getD y+1) c≤((q+1:Nat):Int):=by
            rcases hq with rfl | ⟨rfl,px,hpx,hx⟩
            · unfold bmp;split <;> omega
            · have hx2 := hm k hk px _ hx
              unfold bmp;split <;> omega
          rw [if_pos (by omega)];exact hb
  · rw [if_neg hkk] at hz
    have hzm:=(r2 z (List.mem_of_getElem? hz)).2;have hil:=(List.getElem?_eq_some_iff.1 hz).1;have hage:=hm k hk i z hz;have hzx:z≠a/l:=fun q=>hkk (by rw [q,e1] at hzm;omega);rw [if_neg hzx];cases q9:ageT u z with
    | none=>rw [q9] at hage;simp at hage;omega
    | some c =>
      rw [q9] at hage;simp only [Option.getD_some] at hage;rw [Option.bind_some];unfold agS;rw [if_neg (by rw [hzm,e1];omega),if_pos (by omega)];exact hage
end
end Ca
end Go.Proofs.YtmjnakhpekbenaaGreat
namespace Go.Proofs.YtmjnakhpekbenaaGreat
open Go.Maps Go.RowKit Go.Sort Fw
namespace Ca
theorem range1 {w:World} {b off:Nat} {v:Value} (h:w.cell? ⟨b,off,none⟩=some v):w.rangeAt b off [v]:=fun j u hu=>by
  match j,hu with
  | 0,hu=>cases hu;exact h
  | j+1,hu=>simp at hu
end Ca
end Go.Proofs.YtmjnakhpekbenaaGreat
namespace Go.Proofs.YtmjnakhpekbenaaGreat
open Go.RowKit Fw
namespace Fl
section
variable {T : Type} [DecidableEq T] {L : Lat T} {C : Cd} {n M : Nat} {t : T} {ah : Ah T} {x : T × Ah T}
theorem step_chg (G:Good L C 0 n t ah x) (hn:n<1000) (ht:L.ok t) (hM:∀ a,L.ok a→L.mu a<M) {s:RS T} (h:RInv L n t x s) {i:Nat} (hi:i<n) {u v:Nat} (hp:(u,v)∈ways C i) (q1:s.rc u=true) {X:T}
    (hX:X=if s.rc v=true then L.J (s.tb v) (L.F u (s.tb u)) else L.F u (s.tb u)) (q3:¬ (s.rc v=true∧X=s.tb v)) :
    RInv L n t x ⟨up s.tb v X,up s.rc v true,true⟩∧rmu L.toOps M n ⟨up s.tb v X,up s.rc v true,true⟩<rmu L.toOps M n s:=by
  have e:rstep L.toOps s (u,v)=⟨up s.tb v X,up s.rc v true,true⟩:=by
    unfold rstep;simp only [if_pos q1];rw [← hX,if_neg q3]
  obtain⟨h1,h2⟩:=rstep_inv G hn ht hM h hi hp;rw [e] at h1 h2;refine⟨h1,?_⟩;rcases h2 with ⟨h2,-⟩ | ⟨-,h2⟩
  · exfalso
    have e1:=congrArg (fun z=>z.rc v) h2;have e2:=congrArg (fun z=>z.tb v) h2;simp only [up_same] at e1 e2;exact q3 ⟨e1.symm,e2⟩
  · exact h2
theorem step_same (G:Good L C 0 n t ah x) (hn:n<1000) (ht:L.ok t) (hM:∀ a,L.ok a→L.mu a<M) {s:RS T} (h:RInv L n t x s) {i:Nat} (hi:i<n) {u v:Nat} (hp:(u,v)∈ways C i) (q1:s.rc v=true) (q3:L.J (s.tb v) (L.F u (s.tb u))=s.tb v) (q2:s.rc u=true):s.rc v=true∧L.le (L.F u (s.tb u)) (s.tb v):=by
  have e:rstep L.toOps s (u,v)=s:=by
    unfold rstep;simp only [if_pos q2,if_pos q1,q3];exact if_pos ⟨q1,trivial⟩
  obtain⟨h1,h2⟩:=rstep_inv G hn ht hM h hi hp;rw [e] at h2;rcases h2 with ⟨-,h2⟩ | ⟨-,h2⟩
  · exact h2 q2
  · omega
omit [DecidableEq T] in
theorem start_inv (G:Good L C 0 n t ah x) (ht:L.ok t) {f:Nat→T} {r:Nat→Bool} (h0:r 0=true) (h1:∀ v,r v=true→v=0) (hf:f 0=t):RInv L n t x ⟨f,r,true⟩ :=
  ⟨h0,by show L.le t (f 0);rw [hf];exact L.rfl t ht,fun v hv=>by
    obtain rfl:=h1 v hv;show L.ok (f 0)∧_∧L.le (f 0) _;rw [hf,G.fst];exact⟨ht,Nat.zero_le _,L.rfl t ht⟩⟩
end
end Fl
namespace Ca
def wsN (c:Nat→Int) (n:Nat):List (Nat × Nat):=(List.range n).flatMap (Fl.ways (cdOf c n))
theorem wLs_len (c:Nat→Int) (n:Nat):(wLs c n n).length=(wsN c n).length:=by unfold wLs wsN;rw [List.length_map]
theorem ws_at {c:Nat→Int} {n i:Nat} (h:i<(wLs c n n).length):∃ u v k:Nat,(wsN c n)[i]?=some (u,v)∧lnT (wLs c n n) i=(u:Int)∧agT (wLs c n n) i=(v:Int)∧k<n∧(u,v)∈Fl.ways (cdOf c n) k:=by
  have h2:i<(wsN c n).length:=(by rw [← wLs_len];exact h);obtain⟨⟨u,v⟩,hp⟩:∃ p,(wsN c n)[i]=p:=⟨_,rfl⟩;have hm:(u,v)∈wsN c n:=(by rw [← hp];exact List.getElem_mem h2);obtain⟨k,hk,hw⟩:=List.mem_flatMap.1 hm;have e:(wLs c n n)[i]=toT (u,v):=by
    have:wLs c n n=(wsN c n).map toT:=rfl;simp only [this,List.getElem_map];rw [hp]
  refine⟨u,v,k,by rw [List.getElem?_eq_getElem h2,hp],?_,?_,List.mem_range.1 hk,hw⟩
  · rw [lnT_get h,e];rfl
  · rw [agT_get h,e];rfl
theorem ws_all {c:Nat→Int} {n:Nat} {P:Nat × Nat→Prop} (h:∀ j,j<(wLs c n n).length→∀ p,(wsN c n)[j]?=some p→P p):∀ i,i<n→∀ p∈Fl.ways (cdOf c n) i,P p:=fun i hi p hp=>by
  have hm:p∈wsN c n:=List.mem_flatMap.2 ⟨i,List.mem_range.2 hi,hp⟩;obtain⟨j,hj,e⟩:=List.getElem_of_mem hm;exact h j (by rw [wLs_len];exact hj) p (by rw [List.getElem?_eq_getElem hj,e])
theorem upB_up (f:Nat→Bool) (v:Nat):upB f v true=Fl.up f v true:=rfl
theorem out_ib {w:World} {gt gr N N2:Nat} {T:Nat→TbI} {f:Nat→Bool} {E1 E2:TypeId} (hB:OwnB w [.cel gt (aR N T) E1,.cel gr (brow N2 f) E2]) {b o:Nat} {x:Int} (hc:w.cell? ⟨b,o,none⟩=some (vI x)):Out [.cel gt (aR N T) E1,.cel gr (brow N2 f) E2] b:=fun e he hb=>by
  rcases List.mem_cons.1 he with rfl | he
  · cases hb
    have h2:=hB.1 (.cel gt (aR N T) E1) (by simp);rw [cell_of_row w gt o _ E1 (0,0) h2] at hc;obtain⟨r,hr⟩:=aR_in hc;cases hr
  · obtain rfl := List.mem_singleton.1 he
    cases hb;have h2:=hB.1 (.cel gr (brow N2 f) E2) (by simp);rw [cell_of_row w gr o _ E2 (0,0) h2] at hc;have hi:o<N2:=by
      have:=(Array.getElem?_eq_some_iff.1 hc).1;simpa [brow] using this
    rw [brow_get hi rfl] at hc;cases hc
theorem keepI {w w':World} {B H:List Ent} {q:Option Addr} {t:List T2} (h:InT w q t) (hO:∀ b o x,w.cell? ⟨b,o,none⟩=some (vI x)→Out B b) (hp:HP (Out B) w w' H):InT w' q t:=fun h0=>by
  obtain⟨g,o,hq,hr⟩:=h h0;exact⟨g,o,hq,fun i hi=>HP.oldRange hp (hO g _ _ (hr i hi 0 _ rfl)) (hr i hi)⟩
theorem info49:∃ i,Tryz.prog.info? 63=some i∧i.zero=some (.slice none 0 0)∧i.size=1∧i.bytes=24:=by
  obtain⟨i,hi,h⟩:=Option.map_eq_some_iff.1 (show (Tryz.prog.info? 63).map (fun i=>(i.zero,i.size,i.bytes))=some (some (.slice none 0 0),1,24) by kernel_rfl);simp only [Prod.mk.injEq] at h;exact⟨i,hi,h.1,h.2.1,h.2.2⟩
theorem makeT9 (n:Nat) (hn:n≤1000) (W:World):(Instr.makeSlice 77 (.int .i64 (n:Int)) (.int .i64 (n:Int))).run Tryz.prog W=.ok (.slice (some ⟨W.heap.size,0,none⟩) n n) (W.alloc (.cells (aR n nilT) 63)):=by
  obtain⟨i0,hi0,hz0,hz1,hz2⟩:=info49;have hr:=run_make (P:=Tryz.prog) W 77 63 i0 _ Tryz.underlying77 hi0 hz0 .i64 .i64 (n:Int) (n:Int) (by omega) (by omega) (by rw [hz2];omega) (by omega);rw [hz1,made_aR] at hr;simpa using hr
def Stab (L:Fl.Lat (List T2)) (T:Nat→TbI) (f:Nat→Bool) (p:Nat × Nat):Prop:=f p.1=true→f p.2=true∧L.le (L.F p.1 (tabs T p.1)) (tabs T p.2)
theorem stab_succ {L:Fl.Lat (List T2)} {T:Nat→TbI} {f:Nat→Bool} {c:Nat→Int} {n i u v:Nat} {cb:Bool} (hp:(wsN c n)[i]?=some (u,v)) (h:cb=false→∀ j,j<i→∀ p,(wsN c n)[j]?=some p→Stab L T f p) (h2:Stab L T f (u,v)):cb=false→∀ j,j<i+1→∀ p,(wsN c n)[j]?=some p→Stab L T f p:=fun hc j hj p hq=>by
  by_cases e:j=i
  · subst e;rw [hp] at hq;cases hq;exact h2
  · exact h hc j (by omega) p hq
end Ca
end Go.Proofs.YtmjnakhpekbenaaGreat
namespace Go.Proofs.YtmjnakhpekbenaaGreat
set_option maxRecDepth 20000
set_option maxHeartbeats 4000000
open Go.RowKit Fw
namespace Ca
theorem rJoinedF_any (p p2:Option Addr) (t u:List T2) (cp cp2:Nat) (w:World) (hT:InT w p t) (hU:InT w p2 u) (hn:t.length≤100000) (hn2:u.length≤100000) :
  Calls Tryz.prog 70 #[.slice p t.length cp,.slice p2 u.length cp2,.bool false] w fun e w'=>∃ pv cp',e=.returned (.slice pv (rJ false t u).length cp')∧HP Tr w w' [rowT pv (rJ false t u).length cp' (rJ false t u)]:=by
 refine calls_of Tryz.func70 rfl (m:=119) rfl [(0,.slice p t.length cp),(1,.slice p2 u.length cp2),(2,.bool false)] (Fr_enter [.slice p t.length cp,.slice p2 u.length cp2,.bool false] 119 (Nat.le_of_ble_eq_true rfl)) ?_;have hH1:HP Tr w w []:=HP.refl w;refine WC.seq fun K2 hK2=>WC.region (WL.z (.slice none 0 0) 6 (WL.k hK2 (WC.seq fun K3 hK3=>WC.region (WL.z (.slice none 0 0) 7 (WL.k hK3 ?_)))));refine WC.seq fun K4 hK4=>WC.region (WL.z (vI 0) 8 (WL.k hK4 (WC.seq fun K5 hK5=>WC.region (WL.z (vI 0) 9 (WL.k hK5 ?_)))));refine WC.seq fun K6 hK6=>WC.block ?_;refine WC.loop (fun kk0 ll0 ww0=>∃ (i:Nat) (k:Nat) (A:List T2) (pv:Option Addr) (cp3:Nat),ll0=[(0,.slice p t.length cp),(1,.slice p2 u.length cp2),(2,.bool false),(7,.slice pv A.length cp3),(8,vI (i:Int)),(9,vI (k:Int))]∧kk0=t.length-i+(u.length-k)∧(i≤t.length)∧(k≤u.length)∧(A++rJ false (t.drop i) (u.drop k)=rJ false t u)∧(A.length≤i+k)∧HP Tr w ww0 [rowT pv A.length cp3 A]) (t.length+u.length) [(0,.slice p t.length cp),(1,.slice p2 u.length cp2),(2,.bool false),(7,.slice none 0 0),(8,vI 0),(9,vI 0)] ⟨rfl,rfl,rfl,rfl,rfl,rfl,trivial⟩ ⟨0,0,[],none,0,rfl,rfl,Nat.zero_le _,Nat.zero_le _,rfl,Nat.zero_le _,HP.ownNil hH1 67 2⟩ ?_;rintro kk l w8 ⟨i,k,A,pv,cp3,rfl,hkk,hi,hk,hA,hAl,hH9⟩ K7 hK7;refine WC.seq fun K10 hK10=>WC.seq fun K11 hK11=>WC.region (WL.z (vI (i:Int)) 11 (WL.z (.slice p t.length cp) 12 (WL.z (vI (t.length:Int)) 13 ?_)));by_cases h14:(i:Int)<(t.length:Int)
 ·
  refine WL.y (.bool true) 14 (x_lss rfl rfl rfl (dT (h14))) (WL.z (.bool true) 15 (WL.p 16 (WL.p 17 (WL.p 18 (WL.p 19 (WL.z (.bool true) 20 (WL.k hK11 (WC.sb [(0,.slice p t.length cp),(1,.slice p2 u.length cp2),(2,.bool false),(7,.slice pv A.length cp3),(8,vI (i:Int)),(9,vI (k:Int)),(20,.bool true)] ?_))))))));refine WC.yes rfl ?_;refine WC.skip (WQ.then (hK10 _ _ _ (WC.block (WC.seq fun K12 hK12=>WC.seq fun K13 hK13=>?_))));refine WC.still (by kernel_rfl) (by kernel_rfl) ?_;have hH14:=HP.drew hH9;refine WS.z (vI (k:Int)) 21 (WS.z (.slice p2 u.length cp2) 22 (WS.z (vI (u.length:Int)) 23 ?_));by_cases h24:(k:Int)=(u.length:Int)
  ·
   obtain⟨g,o,rfl,hrow⟩:=hT (by omega);refine WS.y (.bool true) 24 (x_eql rfl rfl rfl (dT (h24))) (WS.z (.bool true) 25 (WS.p 26 (WS.p 27 (WS.p 28 (WS.p 29 (WS.p 30 (WS.p 31 (WS.p 32 (WS.p 33 (WS.p 34 (WS.p 35 ?_)))))))))));refine WS.p 36 (WS.p 37 (WS.p 38 (WS.p 39 (WS.p 40 (WS.p 41 (WS.p 42 (WS.z (.bool true) 43 (WS.nilQ (WQ.then (hK13 _ _ _ (WC.sb [(0,.slice (some ⟨g,o,none⟩) t.length cp),(1,.slice p2 u.length cp2),(2,.bool false),(7,.slice pv A.length cp3),(8,vI (i:Int)),(9,vI (k:Int)),(20,.bool true),(43,.bool true)] ?_)))))))))));refine WC.yes rfl ?_;refine WC.seq fun K15 hK15=>WC.seq fun K16 hK16=>WC.region (WL.z (.bool false) 44 (WL.k hK16 ?_));refine WC.no rfl ?_;refine WC.skip (WQ.then (hK15 _ _ _ (WC.seq fun K17 hK17=>WC.region (WL.z (vI (i:Int)) 52 (WL.y (vI ((i+1:Nat):Int)) 53 (x_ad (((i+1:Nat):Int))) (WL.z (vI ((i+1:Nat):Int)) 8 (WL.k hK17 (WC.exit ?_))))))));refine WQ.thenExit (WQ.inExit (WQ.sb [(0,.slice (some ⟨g,o,none⟩) t.length cp),(1,.slice p2 u.length cp2),(2,.bool false),(7,.slice pv A.length cp3),(8,vI ((i+1:Nat):Int)),(9,vI (k:Int))] ?_));refine WQ.then (hK7 _ _ _ (by omega) ⟨i+1,k,A,pv,cp3,rfl,rfl,by omega,by omega,by rw [← hA,rJ_l (t:=t) (u:=u) (i:=i) (k:=k) (by omega) (by omega)];simp,by omega,hH14⟩)
  ·
   obtain⟨g2,o2,rfl,hrow2⟩:=hU (by omega);refine WS.y (.bool false) 24 (x_eql rfl rfl rfl (dF (h24))) (WS.z (.bool false) 25 (WS.z (vI (i:Int)) 26 (WS.z (.slice p t.length cp) 27 (WS.z (vI (t.length:Int)) 28 ?_))));by_cases h29:(i:Int)<(t.length:Int)
   ·
    obtain⟨g,o,rfl,hrow⟩:=hT (by omega);refine WS.y (.bool true) 29 (x_lss rfl rfl rfl (dT (h29))) (WS.z (.bool true) 30 (WS.z (.slice (some ⟨g,o,none⟩) t.length cp) 31 (WS.z (vI (i:Int)) 32 (WS.y (vP g (o+i*2)) 33 (x_ix (i) (o+i*2) Tryz.underlying63 sz67) (WS.y (vP g (o+i*2)) 34 (x_idxArr (0) (o+i*2) rfl rfl rfl Tryz.underlying67 sz3 (by omega) (by omega) (by omega)) (WS.y (vI (lnT t i)) 35 (x_load rfl rfl Tryz.underlying3 rfl ((HP.oldRange hH14 trivial (hrow i (by omega))) 0 _ rfl)) (WS.z (.slice (some ⟨g2,o2,none⟩) u.length cp2) 36 (WS.z (vI (k:Int)) 37 (WS.y (vP g2 (o2+k*2)) 38 (x_ix (k) (o2+k*2) Tryz.underlying63 sz67) (WS.y (vP g2 (o2+k*2)) 39 (x_idxArr (0) (o2+k*2) rfl rfl rfl Tryz.underlying67 sz3 (by omega) (by omega) (by omega)) ?_))))))))));refine WS.y (vI (lnT u k)) 40 (x_load rfl rfl Tryz.underlying3 rfl ((HP.oldRange hH14 trivial (hrow2 k (by omega))) 0 _ rfl)) ?_;by_cases h41:lnT t i<lnT u k
    ·
     refine WS.y (.bool true) 41 (x_lss rfl rfl rfl (dT (h41))) (WS.z (.bool true) 42 (WS.z (.bool true) 43 (WS.nilQ (WQ.then (hK13 _ _ _ (WC.sb [(0,.slice (some ⟨g,o,none⟩) t.length cp),(1,.slice (some ⟨g2,o2,none⟩) u.length cp2),(2,.bool false),(7,.slice pv A.length cp3),(8,vI (i:Int)),(9,vI (k:Int)),(20,.bool true),(43,.bool true)] ?_))))));refine WC.yes rfl ?_;refine WC.seq fun K18 hK18=>WC.seq fun K19 hK19=>WC.region (WL.z (.bool false) 44 (WL.k hK19 ?_));refine WC.no rfl ?_;refine WC.skip (WQ.then (hK18 _ _ _ (WC.seq fun K20 hK20=>WC.region (WL.z (vI (i:Int)) 52 (WL.y (vI ((i+1:Nat):Int)) 53 (x_ad (((i+1:Nat):Int))) (WL.z (vI ((i+1:Nat):Int)) 8 (WL.k hK20 (WC.exit ?_))))))));refine WQ.thenExit (WQ.inExit (WQ.sb [(0,.slice (some ⟨g,o,none⟩) t.length cp),(1,.slice (some ⟨g2,o2,none⟩) u.length cp2),(2,.bool false),(7,.slice pv A.length cp3),(8,vI ((i+1:Nat):Int)),(9,vI (k:Int))] ?_));refine WQ.then (hK7 _ _ _ (by omega) ⟨i+1,k,A,pv,cp3,rfl,rfl,by omega,by omega,by rw [← hA,rJ_l (t:=t) (u:=u) (i:=i) (k:=k) (by omega) (by omega)];simp,by omega,hH14⟩)
    ·
     refine WS.y (.bool false) 41 (x_lss rfl rfl rfl (dF (h41))) (WS.z (.bool false) 42 (WS.z (.bool false) 43 (WS.nilQ (WQ.then (hK13 _ _ _ (WC.sb [(0,.slice (some ⟨g,o,none⟩) t.length cp),(1,.slice (some ⟨g2,o2,none⟩) u.length cp2),(2,.bool false),(7,.slice pv A.length cp3),(8,vI (i:Int)),(9,vI (k:Int)),(20,.bool true),(43,.bool false)] ?_))))));refine WC.no rfl ?_;refine WC.skip (WQ.then (hK12 _ _ _ (WC.seq fun K21 hK21=>WC.seq fun K22 hK22=>?_)));refine WC.still (by kernel_rfl) (by kernel_rfl) ?_;have hH23:=HP.drew hH14;refine WS.z (vI (i:Int)) 54 (WS.z (.slice (some ⟨g,o,none⟩) t.length cp) 55 (WS.z (vI (t.length:Int)) 56 (WS.y (.bool false) 57 (x_eql rfl rfl rfl (dF (by omega))) (WS.z (.bool false) 58 (WS.z (.slice (some ⟨g2,o2,none⟩) u.length cp2) 59 (WS.z (vI (k:Int)) 60 (WS.y (vP g2 (o2+k*2)) 61 (x_ix (k) (o2+k*2) Tryz.underlying63 sz67) (WS.y (vP g2 (o2+k*2)) 62 (x_idxArr (0) (o2+k*2) rfl rfl rfl Tryz.underlying67 sz3 (by omega) (by omega) (by omega)) (WS.y (vI (lnT u k)) 63 (x_load rfl rfl Tryz.underlying3 rfl ((HP.oldRange hH23 trivial (hrow2 k (by omega))) 0 _ rfl)) (WS.z (.slice (some ⟨g,o,none⟩) t.length cp) 64 (WS.z (vI (i:Int)) 65 ?_)))))))))));refine WS.y (vP g (o+i*2)) 66 (x_ix (i) (o+i*2) Tryz.underlying63 sz67) (WS.y (vP g (o+i*2)) 67 (x_idxArr (0) (o+i*2) rfl rfl rfl Tryz.underlying67 sz3 (by omega) (by omega) (by omega)) (WS.y (vI (lnT t i)) 68 (x_load rfl rfl Tryz.underlying3 rfl ((HP.oldRange hH23 trivial (hrow i (by omega))) 0 _ rfl)) ?_));by_cases h69:lnT u k<lnT t i
     ·
      refine WS.y (.bool true) 69 (x_lss rfl rfl rfl (dT (h69))) (WS.z (.bool true) 70 (WS.nilQ (WQ.then (hK22 _ _ _ (WC.sb [(0,.slice (some ⟨g,o,none⟩) t.length cp),(1,.slice (some ⟨g2,o2,none⟩) u.length cp2),(2,.bool false),(7,.slice pv A.length cp3),(8,vI (i:Int)),(9,vI (k:Int)),(20,.bool true),(43,.bool false),(70,.bool true)] ?_)))));refine WC.yes rfl ?_;refine WC.seq fun K24 hK24=>WC.seq fun K25 hK25=>WC.region (WL.z (.bool false) 71 (WL.k hK25 ?_));refine WC.no rfl ?_;refine WC.skip (WQ.then (hK24 _ _ _ (WC.seq fun K26 hK26=>WC.region (WL.z (vI (k:Int)) 79 (WL.y (vI ((k+1:Nat):Int)) 80 (x_ad (((k+1:Nat):Int))) (WL.z (vI ((k+1:Nat):Int)) 9 (WL.k hK26 (WC.exit ?_))))))));refine WQ.thenExit (WQ.inExit (WQ.sb [(0,.slice (some ⟨g,o,none⟩) t.length cp),(1,.slice (some ⟨g2,o2,none⟩) u.length cp2),(2,.bool false),(7,.slice pv A.length cp3),(8,vI (i:Int)),(9,vI ((k+1:Nat):Int))] ?_));refine WQ.then (hK7 _ _ _ (by omega) ⟨i,k+1,A,pv,cp3,rfl,rfl,by omega,by omega,by rw [← hA,rJ_r (t:=t) (u:=u) (i:=i) (k:=k) (by omega) (by omega)];simp,by omega,hH23⟩)
     ·
      refine WS.y (.bool false) 69 (x_lss rfl rfl rfl (dF (h69))) (WS.z (.bool false) 70 (WS.nilQ (WQ.then (hK22 _ _ _ (WC.sb [(0,.slice (some ⟨g,o,none⟩) t.length cp),(1,.slice (some ⟨g2,o2,none⟩) u.length cp2),(2,.bool false),(7,.slice pv A.length cp3),(8,vI (i:Int)),(9,vI (k:Int)),(20,.bool true),(43,.bool false),(70,.bool false)] ?_)))));refine WC.no rfl ?_;refine WC.skip (WQ.then (hK21 _ _ _ (WC.seq fun K27 hK27=>?_)));refine WC.confG (γ:=Unit) [(0,.slice (some ⟨g,o,none⟩) t.length cp),(1,.slice (some ⟨g2,o2,none⟩) u.length cp2),(2,.bool false),(7,.slice pv A.length cp3),(8,vI (i:Int)),(9,vI (k:Int)),(20,.bool true),(43,.bool false),(70,.bool false)] (fun gy=>[.slice (some ⟨g,o,none⟩) t.length cp,vI (i:Int),vP g (o+i*2),vP g (o+i*2+1),vI (agT t i),.slice (some ⟨g2,o2,none⟩) u.length cp2,vI (k:Int),vP g2 (o2+k*2),vP g2 (o2+k*2+1),vI (agT u k),vI (max (agT t i) (agT u k)),vI (max (agT t i) (agT u k))]) (fun gy D wz=>HP Tr w wz [rowT pv A.length cp3 A]) () (by kernel_rfl) ⟨rfl,rfl,rfl,rfl,rfl,rfl,rfl,rfl,rfl,trivial⟩ (by kernel_rfl) (by kernel_rfl) (by kernel_rfl) (fun _=>rfl) (by kernel_rfl) (HP.drew hH23) ?_ ?_
      ·
       refine AllOk.cons ?o0 (AllOk.cons ?o1 (AllOk.cons ?o2 (AllOk.cons ?o3 (AllOk.cons ?o4 (AllOk.cons ?o5 (AllOk.cons ?o6 (AllOk.cons ?o7 (AllOk.cons ?o8 (AllOk.cons ?o9 (AllOk.cons ?o10 (AllOk.cons ?o11 (AllOk.nil _))))))))))))
       case o0 =>
        intro gy D wz hDi hdep hclo hW;exact cfv gy wz (by kernel_rfl) hW
       case o1 =>
        intro gy D wz hDi hdep hclo hW;exact cfv gy wz (by kernel_rfl) hW
       case o2 =>
        intro gy D wz hDi hdep hclo hW;exact cfv gy wz (x_ix (i) (o+i*2) Tryz.underlying63 sz67) hW
       case o3 =>
        intro gy D wz hDi hdep hclo hW;exact cfv gy wz (x_idxArr (1) (o+i*2+1) rfl rfl rfl Tryz.underlying67 sz3 (by omega) (by omega) (by omega)) hW
       case o4 =>
        intro gy D wz hDi hdep hclo hW;exact cfv gy wz (x_load rfl rfl Tryz.underlying3 rfl ((HP.oldRange hW trivial (hrow i (by omega))) 1 _ rfl)) hW
       case o5 =>
        intro gy D wz hDi hdep hclo hW;exact cfv gy wz (by kernel_rfl) hW
       case o6 =>
        intro gy D wz hDi hdep hclo hW;exact cfv gy wz (by kernel_rfl) hW
       case o7 =>
        intro gy D wz hDi hdep hclo hW;exact cfv gy wz (x_ix (k) (o2+k*2) Tryz.underlying63 sz67) hW
       case o8 =>
        intro gy D wz hDi hdep hclo hW;exact cfv gy wz (x_idxArr (1) (o2+k*2+1) rfl rfl rfl Tryz.underlying67 sz3 (by omega) (by omega) (by omega)) hW
       case o9 =>
        intro gy D wz hDi hdep hclo hW;exact cfv gy wz (x_load rfl rfl Tryz.underlying3 rfl ((HP.oldRange hW trivial (hrow2 k (by omega))) 1 _ rfl)) hW
       case o10 =>
        intro gy D wz hDi hdep hclo hW;exact cfv gy wz (x_max (Z:=max (agT t i) (agT u k)) (t:=0) rfl rfl rfl (by simp only [Int.max_def];split <;> split <;> omega)) hW
       case o11 =>
        intro gy D wz hDi hdep hclo hW;exact cfv gy wz (by kernel_rfl) hW
      rintro gy D w28 hall hH29;clear hall;refine WQ.sb [(0,.slice (some ⟨g,o,none⟩) t.length cp),(1,.slice (some ⟨g2,o2,none⟩) u.length cp2),(2,.bool false),(7,.slice pv A.length cp3),(8,vI (i:Int)),(9,vI (k:Int)),(10,vI (max (agT t i) (agT u k))),(20,.bool true),(43,.bool false),(70,.bool false)] (WQ.then (hK27 _ _ _ (WC.seq fun K30 hK30=>WC.seq fun K31 hK31=>WC.region (WL.z (.bool false) 92 (WL.k hK31 ?_)))));refine WC.no rfl ?_;refine WC.skip (WQ.then (hK30 _ _ _ (WC.seq fun K32 hK32=>WC.region (WL.z (.slice pv A.length cp3) 104 (WL.z (.slice (some ⟨g,o,none⟩) t.length cp) 105 (WL.z (vI (i:Int)) 106 (WL.y (vP g (o+i*2)) 107 (x_ix (i) (o+i*2) Tryz.underlying63 sz67) (WL.y (vP g (o+i*2)) 108 (x_idxArr (0) (o+i*2) rfl rfl rfl Tryz.underlying67 sz3 (by omega) (by omega) (by omega)) (WL.y (vI (lnT t i)) 109 (x_load rfl rfl Tryz.underlying3 rfl ((HP.oldRange hH29 trivial (hrow i (by omega))) 0 _ rfl)) (WL.z (vI (max (agT t i) (agT u k))) 110 ?_))))))))));refine WL.z (.agg #[vI (lnT t i),vI (max (agT t i) (agT u k))]) 111 ?_;refine WL.alloc (c:=#[vI (lnT t i),vI (max (agT t i) (agT u k))]) (T:=67) hH29 112 rfl (by decide) rfl rfl (fun b33=>vS b33 1 1) (by kernel_rfl) (fun b33 w34 hw34=>?_);have hH35:HP Tr w w34 [rowT pv A.length cp3 A,.cel b33 #[vI (lnT t i),vI (max (agT t i) (agT u k))] 67]:=hw34.2;have nb33:=hw34.1;clear hw34;obtain⟨i0,hi0,hz0,hz1,hz2⟩:=infoT;refine WL.append (news:=[vI (lnT t i),vI (max (agT t i) (agT u k))]) 0 1 hH35 113 rfl (by decide) rfl rfl rfl rfl Tryz.underlying63 hi0 hz0 hz1 hz2 rfl (by decide) rfl rfl rfl rfl (by simp [Value.oneCell']) (by unfold maxLen;omega) (by omega) ?_;rintro v736 w736-hA736;obtain⟨pv736,cp736,rfl⟩:=own_row (HP.get hA736 0 rfl);have e736:A.length+1=(A++[(lnT t i,max (agT t i) (agT u k))]).length:=(len1 _ _).symm;rw [tL_push,e736] at hA736
      rw [e736];have hH37:HP Tr w _ [rowT pv736 (A++[(lnT t i,max (agT t i) (agT u k))]).length cp736 (A++[(lnT t i,max (agT t i) (agT u k))]),.cel b33 #[vI (lnT t i),vI (max (agT t i) (agT u k))] 67]:=hA736;refine WL.z (.slice pv736 ((A++[(lnT t i,max (agT t i) (agT u k))]).length) cp736) 7 (WL.k hK32 (WC.sb [(0,.slice (some ⟨g,o,none⟩) t.length cp),(1,.slice (some ⟨g2,o2,none⟩) u.length cp2),(2,.bool false),(7,.slice pv736 ((A++[(lnT t i,max (agT t i) (agT u k))]).length) cp736),(8,vI (i:Int)),(9,vI (k:Int)),(10,vI (max (agT t i) (agT u k))),(20,.bool true),(43,.bool false),(70,.bool false),(92,.bool false)] (WC.seq fun K38 hK38=>WC.region (WL.z (vI (i:Int)) 114 (WL.y (vI ((i+1:Nat):Int)) 115 (x_ad (((i+1:Nat):Int))) (WL.z (vI ((i+1:Nat):Int)) 8 (WL.nil (WQ.then ?_))))))));refine hK38 _ _ _ (WC.region (WL.z (vI (k:Int)) 116 (WL.y (vI ((k+1:Nat):Int)) 117 (x_ad (((k+1:Nat):Int))) (WL.z (vI ((k+1:Nat):Int)) 9 (WL.nil (WQ.inNormal (WQ.sb [(0,.slice (some ⟨g,o,none⟩) t.length cp),(1,.slice (some ⟨g2,o2,none⟩) u.length cp2),(2,.bool false),(7,.slice pv736 ((A++[(lnT t i,max (agT t i) (agT u k))]).length) cp736),(8,vI ((i+1:Nat):Int)),(9,vI ((k+1:Nat):Int))] ?_)))))));refine WQ.then (hK7 _ _ _ (by omega) ⟨i+1,k+1,(A++[(lnT t i,max (agT t i) (agT u k))]),pv736,cp736,rfl,rfl,by omega,by omega,by rw [← hA,rJ_b (t:=t) (u:=u) (i:=i) (k:=k) (by omega) (by omega) (by omega) (by omega)];simp,by rw [len1];omega,(HP.drop hH37 1)⟩)
   ·
    refine WS.y (.bool false) 29 (x_lss rfl rfl rfl (dF (h29))) (WS.z (.bool false) 30 (WS.p 31 (WS.p 32 (WS.p 33 (WS.p 34 (WS.p 35 (WS.p 36 (WS.p 37 (WS.p 38 (WS.p 39 (WS.p 40 ?_)))))))))));refine WS.p 41 (WS.z (.bool false) 42 (WS.z (.bool false) 43 (WS.nilQ (WQ.then (hK13 _ _ _ (WC.sb [(0,.slice p t.length cp),(1,.slice (some ⟨g2,o2,none⟩) u.length cp2),(2,.bool false),(7,.slice pv A.length cp3),(8,vI (i:Int)),(9,vI (k:Int)),(20,.bool true),(43,.bool false)] ?_))))));refine WC.no rfl ?_;refine WC.skip (WQ.then (hK12 _ _ _ (WC.seq fun K39 hK39=>WC.seq fun K40 hK40=>?_)));refine WC.still (by kernel_rfl) (by kernel_rfl) ?_;have hH41:=HP.drew hH14;refine WS.z (vI (i:Int)) 54 (WS.z (.slice p t.length cp) 55 (WS.z (vI (t.length:Int)) 56 (WS.y (.bool true) 57 (x_eql rfl rfl rfl (dT (by omega))) (WS.z (.bool true) 58 (WS.p 59 (WS.p 60 (WS.p 61 (WS.p 62 (WS.p 63 (WS.p 64 (WS.p 65 ?_)))))))))));refine WS.p 66 (WS.p 67 (WS.p 68 (WS.p 69 (WS.z (.bool true) 70 (WS.nilQ (WQ.then (hK40 _ _ _ (WC.sb [(0,.slice p t.length cp),(1,.slice (some ⟨g2,o2,none⟩) u.length cp2),(2,.bool false),(7,.slice pv A.length cp3),(8,vI (i:Int)),(9,vI (k:Int)),(20,.bool true),(43,.bool false),(70,.bool true)] ?_))))))));refine WC.yes rfl ?_;refine WC.seq fun K42 hK42=>WC.seq fun K43 hK43=>WC.region (WL.z (.bool false) 71 (WL.k hK43 ?_));refine WC.no rfl ?_;refine WC.skip (WQ.then (hK42 _ _ _ (WC.seq fun K44 hK44=>WC.region (WL.z (vI (k:Int)) 79 (WL.y (vI ((k+1:Nat):Int)) 80 (x_ad (((k+1:Nat):Int))) (WL.z (vI ((k+1:Nat):Int)) 9 (WL.k hK44 (WC.exit ?_))))))));refine WQ.thenExit (WQ.inExit (WQ.sb [(0,.slice p t.length cp),(1,.slice (some ⟨g2,o2,none⟩) u.length cp2),(2,.bool false),(7,.slice pv A.length cp3),(8,vI (i:Int)),(9,vI ((k+1:Nat):Int))] ?_));refine WQ.then (hK7 _ _ _ (by omega) ⟨i,k+1,A,pv,cp3,rfl,rfl,by omega,by omega,by rw [← hA,rJ_r (t:=t) (u:=u) (i:=i) (k:=k) (by omega) (by omega)];simp,by omega,hH41⟩)
 ·
  refine WL.y (.bool false) 14 (x_lss rfl rfl rfl (dF (h14))) (WL.z (.bool false) 15 (WL.z (vI (k:Int)) 16 (WL.z (.slice p2 u.length cp2) 17 (WL.z (vI (u.length:Int)) 18 ?_))));by_cases h19:(k:Int)<(u.length:Int)
  ·
   refine WL.y (.bool true) 19 (x_lss rfl rfl rfl (dT (h19))) (WL.z (.bool true) 20 (WL.k hK11 (WC.sb [(0,.slice p t.length cp),(1,.slice p2 u.length cp2),(2,.bool false),(7,.slice pv A.length cp3),(8,vI (i:Int)),(9,vI (k:Int)),(20,.bool true)] ?_)));refine WC.yes rfl ?_;refine WC.skip (WQ.then (hK10 _ _ _ (WC.block (WC.seq fun K45 hK45=>WC.seq fun K46 hK46=>?_))));refine WC.still (by kernel_rfl) (by kernel_rfl) ?_;have hH47:=HP.drew hH9;refine WS.z (vI (k:Int)) 21 (WS.z (.slice p2 u.length cp2) 22 (WS.z (vI (u.length:Int)) 23 ?_));by_cases h24:(k:Int)=(u.length:Int)
   ·
    obtain⟨g,o,rfl,hrow⟩:=hT (by omega);refine WS.y (.bool true) 24 (x_eql rfl rfl rfl (dT (h24))) (WS.z (.bool true) 25 (WS.p 26 (WS.p 27 (WS.p 28 (WS.p 29 (WS.p 30 (WS.p 31 (WS.p 32 (WS.p 33 (WS.p 34 (WS.p 35 ?_)))))))))));refine WS.p 36 (WS.p 37 (WS.p 38 (WS.p 39 (WS.p 40 (WS.p 41 (WS.p 42 (WS.z (.bool true) 43 (WS.nilQ (WQ.then (hK46 _ _ _ (WC.sb [(0,.slice (some ⟨g,o,none⟩) t.length cp),(1,.slice p2 u.length cp2),(2,.bool false),(7,.slice pv A.length cp3),(8,vI (i:Int)),(9,vI (k:Int)),(20,.bool true),(43,.bool true)] ?_)))))))))));refine WC.yes rfl ?_;refine WC.seq fun K48 hK48=>WC.seq fun K49 hK49=>WC.region (WL.z (.bool false) 44 (WL.k hK49 ?_));refine WC.no rfl ?_;refine WC.skip (WQ.then (hK48 _ _ _ (WC.seq fun K50 hK50=>WC.region (WL.z (vI (i:Int)) 52 (WL.y (vI ((i+1:Nat):Int)) 53 (x_ad (((i+1:Nat):Int))) (WL.z (vI ((i+1:Nat):Int)) 8 (WL.k hK50 (WC.exit ?_))))))));refine WQ.thenExit (WQ.inExit (WQ.sb [(0,.slice (some ⟨g,o,none⟩) t.length cp),(1,.slice p2 u.length cp2),(2,.bool false),(7,.slice pv A.length cp3),(8,vI ((i+1:Nat):Int)),(9,vI (k:Int))] ?_));refine WQ.then (hK7 _ _ _ (by omega) ⟨i+1,k,A,pv,cp3,rfl,rfl,by omega,by omega,by rw [← hA,rJ_l (t:=t) (u:=u) (i:=i) (k:=k) (by omega) (by omega)];simp,by omega,hH47⟩)
   ·
    obtain⟨g2,o2,rfl,hrow2⟩:=hU (by omega);refine WS.y (.bool false) 24 (x_eql rfl rfl rfl (dF (h24))) (WS.z (.bool false) 25 (WS.z (vI (i:Int)) 26 (WS.z (.slice p t.length cp) 27 (WS.z (vI (t.length:Int)) 28 ?_))));by_cases h29:(i:Int)<(t.length:Int)
    ·
     obtain⟨g,o,rfl,hrow⟩:=hT (by omega);refine WS.y (.bool true) 29 (x_lss rfl rfl rfl (dT (h29))) (WS.z (.bool true) 30 (WS.z (.slice (some ⟨g,o,none⟩) t.length cp) 31 (WS.z (vI (i:Int)) 32 (WS.y (vP g (o+i*2)) 33 (x_ix (i) (o+i*2) Tryz.underlying63 sz67) (WS.y (vP g (o+i*2)) 34 (x_idxArr (0) (o+i*2) rfl rfl rfl Tryz.underlying67 sz3 (by omega) (by omega) (by omega)) (WS.y (vI (lnT t i)) 35 (x_load rfl rfl Tryz.underlying3 rfl ((HP.oldRange hH47 trivial (hrow i (by omega))) 0 _ rfl)) (WS.z (.slice (some ⟨g2,o2,none⟩) u.length cp2) 36 (WS.z (vI (k:Int)) 37 (WS.y (vP g2 (o2+k*2)) 38 (x_ix (k) (o2+k*2) Tryz.underlying63 sz67) (WS.y (vP g2 (o2+k*2)) 39 (x_idxArr (0) (o2+k*2) rfl rfl rfl Tryz.underlying67 sz3 (by omega) (by omega) (by omega)) ?_))))))))));refine WS.y (vI (lnT u k)) 40 (x_load rfl rfl Tryz.underlying3 rfl ((HP.oldRange hH47 trivial (hrow2 k (by omega))) 0 _ rfl)) ?_;by_cases h41:lnT t i<lnT u k
     ·
      refine WS.y (.bool true) 41 (x_lss rfl rfl rfl (dT (h41))) (WS.z (.bool true) 42 (WS.z (.bool true) 43 (WS.nilQ (WQ.then (hK46 _ _ _ (WC.sb [(0,.slice (some ⟨g,o,none⟩) t.length cp),(1,.slice (some ⟨g2,o2,none⟩) u.length cp2),(2,.bool false),(7,.slice pv A.length cp3),(8,vI (i:Int)),(9,vI (k:Int)),(20,.bool true),(43,.bool true)] ?_))))));refine WC.yes rfl ?_;refine WC.seq fun K51 hK51=>WC.seq fun K52 hK52=>WC.region (WL.z (.bool false) 44 (WL.k hK52 ?_));refine WC.no rfl ?_;refine WC.skip (WQ.then (hK51 _ _ _ (WC.seq fun K53 hK53=>WC.region (WL.z (vI (i:Int)) 52 (WL.y (vI ((i+1:Nat):Int)) 53 (x_ad (((i+1:Nat):Int))) (WL.z (vI ((i+1:Nat):Int)) 8 (WL.k hK53 (WC.exit ?_))))))));refine WQ.thenExit (WQ.inExit (WQ.sb [(0,.slice (some ⟨g,o,none⟩) t.length cp),(1,.slice (some ⟨g2,o2,none⟩) u.length cp2),(2,.bool false),(7,.slice pv A.length cp3),(8,vI ((i+1:Nat):Int)),(9,vI (k:Int))] ?_));refine WQ.then (hK7 _ _ _ (by omega) ⟨i+1,k,A,pv,cp3,rfl,rfl,by omega,by omega,by rw [← hA,rJ_l (t:=t) (u:=u) (i:=i) (k:=k) (by omega) (by omega)];simp,by omega,hH47⟩)
     ·
      refine WS.y (.bool false) 41 (x_lss rfl rfl rfl (dF (h41))) (WS.z (.bool false) 42 (WS.z (.bool false) 43 (WS.nilQ (WQ.then (hK46 _ _ _ (WC.sb [(0,.slice (some ⟨g,o,none⟩) t.length cp),(1,.slice (some ⟨g2,o2,none⟩) u.length cp2),(2,.bool false),(7,.slice pv A.length cp3),(8,vI (i:Int)),(9,vI (k:Int)),(20,.bool true),(43,.bool false)] ?_))))));refine WC.no rfl ?_;refine WC.skip (WQ.then (hK45 _ _ _ (WC.seq fun K54 hK54=>WC.seq fun K55 hK55=>?_)));refine WC.still (by kernel_rfl) (by kernel_rfl) ?_;have hH56:=HP.drew hH47;refine WS.z (vI (i:Int)) 54 (WS.z (.slice (some ⟨g,o,none⟩) t.length cp) 55 (WS.z (vI (t.length:Int)) 56 (WS.y (.bool false) 57 (x_eql rfl rfl rfl (dF (by omega))) (WS.z (.bool false) 58 (WS.z (.slice (some ⟨g2,o2,none⟩) u.length cp2) 59 (WS.z (vI (k:Int)) 60 (WS.y (vP g2 (o2+k*2)) 61 (x_ix (k) (o2+k*2) Tryz.underlying63 sz67) (WS.y (vP g2 (o2+k*2)) 62 (x_idxArr (0) (o2+k*2) rfl rfl rfl Tryz.underlying67 sz3 (by omega) (by omega) (by omega)) (WS.y (vI (lnT u k)) 63 (x_load rfl rfl Tryz.underlying3 rfl ((HP.oldRange hH56 trivial (hrow2 k (by omega))) 0 _ rfl)) (WS.z (.slice (some ⟨g,o,none⟩) t.length cp) 64 (WS.z (vI (i:Int)) 65 ?_)))))))))));refine WS.y (vP g (o+i*2)) 66 (x_ix (i) (o+i*2) Tryz.underlying63 sz67) (WS.y (vP g (o+i*2)) 67 (x_idxArr (0) (o+i*2) rfl rfl rfl Tryz.underlying67 sz3 (by omega) (by omega) (by omega)) (WS.y (vI (lnT t i)) 68 (x_load rfl rfl Tryz.underlying3 rfl ((HP.oldRange hH56 trivial (hrow i (by omega))) 0 _ rfl)) ?_));by_cases h69:lnT u k<lnT t i
      ·
       refine WS.y (.bool true) 69 (x_lss rfl rfl rfl (dT (h69))) (WS.z (.bool true) 70 (WS.nilQ (WQ.then (hK55 _ _ _ (WC.sb [(0,.slice (some ⟨g,o,none⟩) t.length cp),(1,.slice (some ⟨g2,o2,none⟩) u.length cp2),(2,.bool false),(7,.slice pv A.length cp3),(8,vI (i:Int)),(9,vI (k:Int)),(20,.bool true),(43,.bool false),(70,.bool true)] ?_)))));refine WC.yes rfl ?_;refine WC.seq fun K57 hK57=>WC.seq fun K58 hK58=>WC.region (WL.z (.bool false) 71 (WL.k hK58 ?_));refine WC.no rfl ?_;refine WC.skip (WQ.then (hK57 _ _ _ (WC.seq fun K59 hK59=>WC.region (WL.z (vI (k:Int)) 79 (WL.y (vI ((k+1:Nat):Int)) 80 (x_ad (((k+1:Nat):Int))) (WL.z (vI ((k+1:Nat):Int)) 9 (WL.k hK59 (WC.exit ?_))))))));refine WQ.thenExit (WQ.inExit (WQ.sb [(0,.slice (some ⟨g,o,none⟩) t.length cp),(1,.slice (some ⟨g2,o2,none⟩) u.length cp2),(2,.bool false),(7,.slice pv A.length cp3),(8,vI (i:Int)),(9,vI ((k+1:Nat):Int))] ?_));refine WQ.then (hK7 _ _ _ (by omega) ⟨i,k+1,A,pv,cp3,rfl,rfl,by omega,by omega,by rw [← hA,rJ_r (t:=t) (u:=u) (i:=i) (k:=k) (by omega) (by omega)];simp,by omega,hH56⟩)
      ·
       refine WS.y (.bool false) 69 (x_lss rfl rfl rfl (dF (h69))) (WS.z (.bool false) 70 (WS.nilQ (WQ.then (hK55 _ _ _ (WC.sb [(0,.slice (some ⟨g,o,none⟩) t.length cp),(1,.slice (some ⟨g2,o2,none⟩) u.length cp2),(2,.bool false),(7,.slice pv A.length cp3),(8,vI (i:Int)),(9,vI (k:Int)),(20,.bool true),(43,.bool false),(70,.bool false)] ?_)))));refine WC.no rfl ?_;refine WC.skip (WQ.then (hK54 _ _ _ (WC.seq fun K60 hK60=>?_)));refine WC.confG (γ:=Unit) [(0,.slice (some ⟨g,o,none⟩) t.length cp),(1,.slice (some ⟨g2,o2,none⟩) u.length cp2),(2,.bool false),(7,.slice pv A.length cp3),(8,vI (i:Int)),(9,vI (k:Int)),(20,.bool true),(43,.bool false),(70,.bool false)] (fun gy=>[.slice (some ⟨g,o,none⟩) t.length cp,vI (i:Int),vP g (o+i*2),vP g (o+i*2+1),vI (agT t i),.slice (some ⟨g2,o2,none⟩) u.length cp2,vI (k:Int),vP g2 (o2+k*2),vP g2 (o2+k*2+1),vI (agT u k),vI (max (agT t i) (agT u k)),vI (max (agT t i) (agT u k))]) (fun gy D wz=>HP Tr w wz [rowT pv A.length cp3 A]) () (by kernel_rfl) ⟨rfl,rfl,rfl,rfl,rfl,rfl,rfl,rfl,rfl,trivial⟩ (by kernel_rfl) (by kernel_rfl) (by kernel_rfl) (fun _=>rfl) (by kernel_rfl) (HP.drew hH56) ?_ ?_
       ·
        refine AllOk.cons ?o0 (AllOk.cons ?o1 (AllOk.cons ?o2 (AllOk.cons ?o3 (AllOk.cons ?o4 (AllOk.cons ?o5 (AllOk.cons ?o6 (AllOk.cons ?o7 (AllOk.cons ?o8 (AllOk.cons ?o9 (AllOk.cons ?o10 (AllOk.cons ?o11 (AllOk.nil _))))))))))))
        case o0 =>
         intro gy D wz hDi hdep hclo hW;exact cfv gy wz (by kernel_rfl) hW
        case o1 =>
         intro gy D wz hDi hdep hclo hW;exact cfv gy wz (by kernel_rfl) hW
        case o2 =>
         intro gy D wz hDi hdep hclo hW;exact cfv gy wz (x_ix (i) (o+i*2) Tryz.underlying63 sz67) hW
        case o3 =>
         intro gy D wz hDi hdep hclo hW;exact cfv gy wz (x_idxArr (1) (o+i*2+1) rfl rfl rfl Tryz.underlying67 sz3 (by omega) (by omega) (by omega)) hW
        case o4 =>
         intro gy D wz hDi hdep hclo hW;exact cfv gy wz (x_load rfl rfl Tryz.underlying3 rfl ((HP.oldRange hW trivial (hrow i (by omega))) 1 _ rfl)) hW
        case o5 =>
         intro gy D wz hDi hdep hclo hW;exact cfv gy wz (by kernel_rfl) hW
        case o6 =>
         intro gy D wz hDi hdep hclo hW;exact cfv gy wz (by kernel_rfl) hW
        case o7 =>
         intro gy D wz hDi hdep hclo hW;exact cfv gy wz (x_ix (k) (o2+k*2) Tryz.underlying63 sz67) hW
        case o8 =>
         intro gy D wz hDi hdep hclo hW;exact cfv gy wz (x_idxArr (1) (o2+k*2+1) rfl rfl rfl Tryz.underlying67 sz3 (by omega) (by omega) (by omega)) hW
        case o9 =>
         intro gy D wz hDi hdep hclo hW;exact cfv gy wz (x_load rfl rfl Tryz.underlying3 rfl ((HP.oldRange hW trivial (hrow2 k (by omega))) 1 _ rfl)) hW
        case o10 =>
         intro gy D wz hDi hdep hclo hW;exact cfv gy wz (x_max (Z:=max (agT t i) (agT u k)) (t:=0) rfl rfl rfl (by simp only [Int.max_def];split <;> split <;> omega)) hW
        case o11 =>
         intro gy D wz hDi hdep hclo hW;exact cfv gy wz (by kernel_rfl) hW
       rintro gy D w61 hall hH62;clear hall;refine WQ.sb [(0,.slice (some ⟨g,o,none⟩) t.length cp),(1,.slice (some ⟨g2,o2,none⟩) u.length cp2),(2,.bool false),(7,.slice pv A.length cp3),(8,vI (i:Int)),(9,vI (k:Int)),(10,vI (max (agT t i) (agT u k))),(20,.bool true),(43,.bool false),(70,.bool false)] (WQ.then (hK60 _ _ _ (WC.seq fun K63 hK63=>WC.seq fun K64 hK64=>WC.region (WL.z (.bool false) 92 (WL.k hK64 ?_)))));refine WC.no rfl ?_;refine WC.skip (WQ.then (hK63 _ _ _ (WC.seq fun K65 hK65=>WC.region (WL.z (.slice pv A.length cp3) 104 (WL.z (.slice (some ⟨g,o,none⟩) t.length cp) 105 (WL.z (vI (i:Int)) 106 (WL.y (vP g (o+i*2)) 107 (x_ix (i) (o+i*2) Tryz.underlying63 sz67) (WL.y (vP g (o+i*2)) 108 (x_idxArr (0) (o+i*2) rfl rfl rfl Tryz.underlying67 sz3 (by omega) (by omega) (by omega)) (WL.y (vI (lnT t i)) 109 (x_load rfl rfl Tryz.underlying3 rfl ((HP.oldRange hH62 trivial (hrow i (by omega))) 0 _ rfl)) (WL.z (vI (max (agT t i) (agT u k))) 110 ?_))))))))));refine WL.z (.agg #[vI (lnT t i),vI (max (agT t i) (agT u k))]) 111 ?_;refine WL.alloc (c:=#[vI (lnT t i),vI (max (agT t i) (agT u k))]) (T:=67) hH62 112 rfl (by decide) rfl rfl (fun b66=>vS b66 1 1) (by kernel_rfl) (fun b66 w67 hw67=>?_);have hH68:HP Tr w w67 [rowT pv A.length cp3 A,.cel b66 #[vI (lnT t i),vI (max (agT t i) (agT u k))] 67]:=hw67.2;have nb66:=hw67.1;clear hw67;obtain⟨i0,hi0,hz0,hz1,hz2⟩:=infoT;refine WL.append (news:=[vI (lnT t i),vI (max (agT t i) (agT u k))]) 0 1 hH68 113 rfl (by decide) rfl rfl rfl rfl Tryz.underlying63 hi0 hz0 hz1 hz2 rfl (by decide) rfl rfl rfl rfl (by simp [Value.oneCell']) (by unfold maxLen;omega) (by omega) ?_;rintro v769 w769-hA769;obtain⟨pv769,cp769,rfl⟩:=own_row (HP.get hA769 0 rfl);have e769:A.length+1=(A++[(lnT t i,max (agT t i) (agT u k))]).length:=(len1 _ _).symm;rw [tL_push,e769] at hA769
       rw [e769];have hH70:HP Tr w _ [rowT pv769 (A++[(lnT t i,max (agT t i) (agT u k))]).length cp769 (A++[(lnT t i,max (agT t i) (agT u k))]),.cel b66 #[vI (lnT t i),vI (max (agT t i) (agT u k))] 67]:=hA769;refine WL.z (.slice pv769 ((A++[(lnT t i,max (agT t i) (agT u k))]).length) cp769) 7 (WL.k hK65 (WC.sb [(0,.slice (some ⟨g,o,none⟩) t.length cp),(1,.slice (some ⟨g2,o2,none⟩) u.length cp2),(2,.bool false),(7,.slice pv769 ((A++[(lnT t i,max (agT t i) (agT u k))]).length) cp769),(8,vI (i:Int)),(9,vI (k:Int)),(10,vI (max (agT t i) (agT u k))),(20,.bool true),(43,.bool false),(70,.bool false),(92,.bool false)] (WC.seq fun K71 hK71=>WC.region (WL.z (vI (i:Int)) 114 (WL.y (vI ((i+1:Nat):Int)) 115 (x_ad (((i+1:Nat):Int))) (WL.z (vI ((i+1:Nat):Int)) 8 (WL.nil (WQ.then ?_))))))));refine hK71 _ _ _ (WC.region (WL.z (vI (k:Int)) 116 (WL.y (vI ((k+1:Nat):Int)) 117 (x_ad (((k+1:Nat):Int))) (WL.z (vI ((k+1:Nat):Int)) 9 (WL.nil (WQ.inNormal (WQ.sb [(0,.slice (some ⟨g,o,none⟩) t.length cp),(1,.slice (some ⟨g2,o2,none⟩) u.length cp2),(2,.bool false),(7,.slice pv769 ((A++[(lnT t i,max (agT t i) (agT u k))]).length) cp769),(8,vI ((i+1:Nat):Int)),(9,vI ((k+1:Nat):Int))] ?_)))))));refine WQ.then (hK7 _ _ _ (by omega) ⟨i+1,k+1,(A++[(lnT t i,max (agT t i) (agT u k))]),pv769,cp769,rfl,rfl,by omega,by omega,by rw [← hA,rJ_b (t:=t) (u:=u) (i:=i) (k:=k) (by omega) (by omega) (by omega) (by omega)];simp,by rw [len1];omega,(HP.drop hH70 1)⟩)
    ·
     refine WS.y (.bool false) 29 (x_lss rfl rfl rfl (dF (h29))) (WS.z (.bool false) 30 (WS.p 31 (WS.p 32 (WS.p 33 (WS.p 34 (WS.p 35 (WS.p 36 (WS.p 37 (WS.p 38 (WS.p 39 (WS.p 40 ?_)))))))))));refine WS.p 41 (WS.z (.bool false) 42 (WS.z (.bool false) 43 (WS.nilQ (WQ.then (hK46 _ _ _ (WC.sb [(0,.slice p t.length cp),(1,.slice (some ⟨g2,o2,none⟩) u.length cp2),(2,.bool false),(7,.slice pv A.length cp3),(8,vI (i:Int)),(9,vI (k:Int)),(20,.bool true),(43,.bool false)] ?_))))));refine WC.no rfl ?_;refine WC.skip (WQ.then (hK45 _ _ _ (WC.seq fun K72 hK72=>WC.seq fun K73 hK73=>?_)));refine WC.still (by kernel_rfl) (by kernel_rfl) ?_;have hH74:=HP.drew hH47;refine WS.z (vI (i:Int)) 54 (WS.z (.slice p t.length cp) 55 (WS.z (vI (t.length:Int)) 56 (WS.y (.bool true) 57 (x_eql rfl rfl rfl (dT (by omega))) (WS.z (.bool true) 58 (WS.p 59 (WS.p 60 (WS.p 61 (WS.p 62 (WS.p 63 (WS.p 64 (WS.p 65 ?_)))))))))));refine WS.p 66 (WS.p 67 (WS.p 68 (WS.p 69 (WS.z (.bool true) 70 (WS.nilQ (WQ.then (hK73 _ _ _ (WC.sb [(0,.slice p t.length cp),(1,.slice (some ⟨g2,o2,none⟩) u.length cp2),(2,.bool false),(7,.slice pv A.length cp3),(8,vI (i:Int)),(9,vI (k:Int)),(20,.bool true),(43,.bool false),(70,.bool true)] ?_))))))));refine WC.yes rfl ?_;refine WC.seq fun K75 hK75=>WC.seq fun K76 hK76=>WC.region (WL.z (.bool false) 71 (WL.k hK76 ?_));refine WC.no rfl ?_;refine WC.skip (WQ.then (hK75 _ _ _ (WC.seq fun K77 hK77=>WC.region (WL.z (vI (k:Int)) 79 (WL.y (vI ((k+1:Nat):Int)) 80 (x_ad (((k+1:Nat):Int))) (WL.z (vI ((k+1:Nat):Int)) 9 (WL.k hK77 (WC.exit ?_))))))));refine WQ.thenExit (WQ.inExit (WQ.sb [(0,.slice p t.length cp),(1,.slice (some ⟨g2,o2,none⟩) u.length cp2),(2,.bool false),(7,.slice pv A.length cp3),(8,vI (i:Int)),(9,vI ((k+1:Nat):Int))] ?_));refine WQ.then (hK7 _ _ _ (by omega) ⟨i,k+1,A,pv,cp3,rfl,rfl,by omega,by omega,by rw [← hA,rJ_r (t:=t) (u:=u) (i:=i) (k:=k) (by omega) (by omega)];simp,by omega,hH74⟩)
  ·
   refine WL.y (.bool false) 19 (x_lss rfl rfl rfl (dF (h19))) (WL.z (.bool false) 20 (WL.k hK11 (WC.sb [(0,.slice p t.length cp),(1,.slice p2 u.length cp2),(2,.bool false),(7,.slice pv A.length cp3),(8,vI (i:Int)),(9,vI (k:Int)),(20,.bool false)] ?_)));refine WC.no rfl ?_;refine WC.exit (WQ.thenExit (WQ.thenExit (WQ.inExit (WQ.then (hK6 _ _ _ (WC.seq fun K78 hK78=>?_))))));have hR:rJ false t u=A:=(by rw [← hA,rJ_end (by omega) (by omega),List.append_nil]);refine WC.region (WL.z (.slice pv A.length cp3) 118 (WL.z (.slice pv A.length cp3) 6 (WL.k hK78 (WC.ret ?_))));refine WQ.ret1 6 rfl rfl ?_;exact⟨pv,cp3,by rw [hR],by rw [hR];exact HP.eq hH9 rfl⟩
end Ca
end Go.Proofs.YtmjnakhpekbenaaGreat
namespace Go.Proofs.YtmjnakhpekbenaaGreat
set_option maxRecDepth 20000
set_option maxHeartbeats 4000000
open Go.RowKit Fw
namespace Ca
theorem sz63:(Tryz.prog.info? 63).map (·.size)=some 1:=by kernel_rfl
theorem rAhead0_any (s y l m:Int) (p:Option Addr) (n cap:Nat) (c A B:Nat→Int) (w:World) (hIn:Ec.InC w p n c A B) (hg0:vG s y l m=true) (hc:Ec.chk c A B false n=0) :
  Calls Tryz.prog 40 #[.agg #[vI s,vI y,vI l,vI m],.slice p n cap,.bool false] w fun e w'=>∃ gt T',e=.returned (vS gt (n+1) (n+1))∧HP Tr w w' [.cel gt (aR (n+1) T') 63]∧(∀ i,TbOk s y l m w' (T' i))∧∀ v,v<n→tabs T' v=(Fl.sol (opsM s y l) (cdOf c n) (trC c n) [] (fun _=>[])).2 v:=by
 have hn9:=(Ec.chk_ok hc).1;have hg:=vG_iff.1 hg0;have hIs0:=trC_is hc;have G:=Fl.sol_good (L:=(latM s y l m hg0)) (trC c n) 0 n [] (fun _=>[]) hIs0 (by omega) (VT.nil hg0);refine calls_of Tryz.func40 rfl (m:=93) rfl [(0,.agg #[vI s,vI y,vI l,vI m]),(1,.slice p n cap),(2,.bool false)] (Fr_enter [.agg #[vI s,vI y,vI l,vI m],.slice p n cap,.bool false] 93 (Nat.le_of_ble_eq_true rfl)) ?_;have hH1:HP Tr w w []:=HP.refl w;refine WC.seq fun K2 hK2=>WC.region ?_;refine WL.alloc (c:=#[vI s,vI y,vI l,vI m]) (T:=23) hH1 3 rfl (by decide) rfl rfl (fun b3=>vP b3 0) (by kernel_rfl) (fun b3 w3 hw3=>?_);have hH4:HP Tr w w3 [.cel b3 #[vI s,vI y,vI l,vI m] 23]:=hw3.2;have nb3:=hw3.1;clear hw3;refine WL.z (.slice none 0 0) 6 (WL.k hK2 (WC.seq fun K5 hK5=>WC.region (WL.z (.slice p n cap) 15 (WL.z (vI (n:Int)) 16 (WL.y (vI ((n+1:Nat):Int)) 17 (x_ad (((n+1:Nat):Int))) ?_)))));refine WL.alloc (c:=aR (n+1) nilT) (T:=63) hH4 18 rfl (by decide) rfl rfl (fun gt=>vS gt (n+1) (n+1)) (x_makeR rfl rfl rfl (makeT9 (n+1) (by omega) _)) (fun gt w9 hw9=>?_);have hH6:HP Tr w w9 [.cel b3 #[vI s,vI y,vI l,vI m] 23,.cel gt (aR (n+1) nilT) 63]:=hw9.2;clear hw9;refine WL.z (vS gt (n+1) (n+1)) 7 (WL.k hK5 (WC.seq fun K7 hK7=>WC.region (WL.z (.slice p n cap) 19 (WL.z (vI (n:Int)) 20 (WL.y (vI ((n+1:Nat):Int)) 21 (x_ad (((n+1:Nat):Int))) ?_)))));refine WL.alloc (c:=brow (n+1) (fun _=>false)) (T:=4) hH6 22 rfl (by decide) rfl rfl (fun gr=>vS gr (n+1) (n+1)) (x_makeR rfl rfl rfl (makeB (n+1) (by omega) _)) (fun gr w10 hw9=>?_);have hH8:HP Tr w w10 [.cel b3 #[vI s,vI y,vI l,vI m] 23,.cel gt (aR (n+1) nilT) 63,.cel gr (brow (n+1) (fun _=>false)) 4]:=hw9.2;clear hw9;refine WL.z (vS gr (n+1) (n+1)) 8 (WL.k hK7 (WC.sb [(0,.agg #[vI s,vI y,vI l,vI m]),(1,.slice p n cap),(2,.bool false),(3,vP b3 0),(6,.slice none 0 0),(7,vS gt (n+1) (n+1)),(8,vS gr (n+1) (n+1))] (WC.seq fun K9 hK9=>WC.region (WL.z (vS gr (n+1) (n+1)) 23 (WL.y (vP gr 0) 24 (x_ix (0) (0) Tryz.underlying26 sz4) ?_)))))
 refine WL.store (c':=brow (n+1) (upB (fun _=>false) 0 true)) (H2:=_) 2 hH8 rfl rfl rfl rfl rfl rfl sz4 rfl (by rw [size_brow];omega) (brow_set (n+1) 0 (fun _=>false) true) rfl ?_;intro w10 hBw10;have hH11:HP Tr w w10 [.cel b3 #[vI s,vI y,vI l,vI m] 23,.cel gt (aR (n+1) nilT) 63,.cel gr (brow (n+1) (upB (fun _=>false) 0 true)) 4]:=hBw10;refine WL.k hK9 (WC.seq fun K12 hK12=>WC.region (WL.z (.slice p n cap) 25 ?_));refine WL.c 68 #[.slice p n cap] 26 ?_;refine(rWays_any p n cap c A B _ (hIn.below (HP.below hH11)) hc).mono ?_;rintro e w13 ⟨pvw,cpw,rfl,hb14,hwl⟩;refine⟨_,rfl,?_⟩;have hH15:HP Tr w _ [.cel b3 #[vI s,vI y,vI l,vI m] 23,.cel gt (aR (n+1) nilT) 63,.cel gr (brow (n+1) (upB (fun _=>false) 0 true)) 4,rowT pvw (wLs c n n).length cpw (wLs c n n)]:=HP.trans hH11 hb14;refine WL.z (.slice pvw ((wLs c n n).length) cpw) 9 (WL.k hK12 (WC.seq fun K16 hK16=>WC.seq fun K17 hK17=>?_));have hIW0:=InT.own (HP.get hH15 3 rfl);have hH18:HP Tr w _ [.cel b3 #[vI s,vI y,vI l,vI m] 23,.cel gt (aR (n+1) nilT) 63,.cel gr (brow (n+1) (upB (fun _=>false) 0 true)) 4]:=HP.drop hH15 3;refine WC.region (WL.z (.bool true) 10 (WL.k hK17 (WC.block ?_)));refine WC.loop (fun kk0 ll0 ww0=>∃ (T0:Nat→TbI) (f0:Nat→Bool) (ch:Bool),ll0=[(1,.slice p n cap),(2,.bool false),(3,vP b3 0),(7,vS gt (n+1) (n+1)),(8,vS gr (n+1) (n+1)),(9,.slice pvw ((wLs c n n).length) cpw),(10,.bool ch)]∧kk0=(bif ch then Fl.rmu (opsM s y l) 5000 n ⟨tabs T0,f0,true⟩+1 else 0)∧(∀ i9,TbOk s y l m ww0 (T0 i9))∧(InT ww0 pvw (wLs c n n))∧(Fl.RInv (latM s y l m hg0) n [] (Fl.sol (opsM s y l) (cdOf c n) (trC c n) [] (fun _=>[])) ⟨tabs T0,f0,true⟩)∧(ch=false→∀ i,i<n→∀ p∈Fl.ways (cdOf c n) i,Stab (latM s y l m hg0) T0 f0 p)∧HP Tr w ww0 [.cel b3 #[vI s,vI y,vI l,vI m] 23,.cel gt (aR (n+1) T0) 63,.cel gr (brow (n+1) f0) 4]) (Fl.rmu (opsM s y l) 5000 n ⟨tabs nilT,(upB (fun _=>false) 0 true),true⟩+1) [(1,.slice p n cap),(2,.bool false),(3,vP b3 0),(7,vS gt (n+1) (n+1)),(8,vS gr (n+1) (n+1)),(9,.slice pvw ((wLs c n n).length) cpw),(10,.bool true)] ⟨rfl,rfl,rfl,rfl,rfl,rfl,rfl,trivial⟩ ⟨nilT,(upB (fun _=>false) 0 true),true,rfl,rfl,(fun i9=>nil_ok hg0),hIW0,(Fl.start_inv G (VT.nil hg0) rfl (fun v hv=>by unfold upB at hv;split at hv;assumption;cases hv) rfl),(fun h=>by cases h),hH18⟩ ?_
 rintro kk l w20 ⟨T0,f0,ch,rfl,hkk,hT0,hIW,hR0,hst0,hH21⟩ K19 hK19;refine WC.seq fun K22 hK22=>WC.seq fun K23 hK23=>WC.region (WL.z (.bool ch) 27 (WL.k hK23 ?_));rcases Bool.eq_false_or_eq_true (ch) with hch | hch
 ·
  simp only [hch,cond_true] at hkk;clear hst0;refine WC.yes (congrArg (fun b=>some (Value.bool b)) hch) ?_;refine WC.skip (WQ.then (hK22 _ _ _ (WC.block (WC.seq fun K24 hK24=>WC.region (WL.z (.bool false) 10 (WL.k hK24 (WC.seq fun K25 hK25=>WC.region ?_)))))));refine WL.z (vI 0) 11 (WL.k hK25 (WC.block ?_));refine WC.loop (fun kk0 ll0 ww0=>∃ (i:Nat) (T1:Nat→TbI) (f1:Nat→Bool) (cb:Bool),ll0=[(1,.slice p n cap),(2,.bool false),(3,vP b3 0),(7,vS gt (n+1) (n+1)),(8,vS gr (n+1) (n+1)),(9,.slice pvw ((wLs c n n).length) cpw),(10,.bool cb),(11,vI (i:Int))]∧kk0=(wLs c n n).length-i∧(i≤(wLs c n n).length)∧(∀ i9,TbOk s y l m ww0 (T1 i9))∧(InT ww0 pvw (wLs c n n))∧(Fl.RInv (latM s y l m hg0) n [] (Fl.sol (opsM s y l) (cdOf c n) (trC c n) [] (fun _=>[])) ⟨tabs T1,f1,true⟩)∧(Fl.rmu (opsM s y l) 5000 n ⟨tabs T1,f1,true⟩+(bif cb then 1 else 0)≤Fl.rmu (opsM s y l) 5000 n ⟨tabs T0,f0,true⟩)∧(cb=false→∀ j,j<i→∀ p,(wsN c n)[j]?=some p→Stab (latM s y l m hg0) T1 f1 p)∧HP Tr w ww0 [.cel b3 #[vI s,vI y,vI l,vI m] 23,.cel gt (aR (n+1) T1) 63,.cel gr (brow (n+1) f1) 4]) ((wLs c n n).length) [(1,.slice p n cap),(2,.bool false),(3,vP b3 0),(7,vS gt (n+1) (n+1)),(8,vS gr (n+1) (n+1)),(9,.slice pvw ((wLs c n n).length) cpw),(10,.bool false),(11,vI 0)] ⟨rfl,rfl,rfl,rfl,rfl,rfl,rfl,rfl,trivial⟩ ⟨0,T0,f0,false,rfl,rfl,Nat.zero_le _,hT0,hIW,hR0,Nat.le_refl _,(fun _ j hj=>absurd hj (Nat.not_lt_zero _)),hH21⟩ ?_;rintro kk l w27 ⟨i,T1,f1,cb,rfl,hkk,hi,hT1,hIW1,hR1,hmu,hst,hH28⟩ K26 hK26;have hInv:=hH28;have hB9:=HP.ownB (A:=[.cel b3 #[vI s,vI y,vI l,vI m] 23]) hInv;have hOi:=fun b o x hc=>out_ib hB9 (b:=b) (o:=o) (x:=x) hc;have hgr:World.rangeAt w27 b3 0 [vI s,vI y,vI l,vI m]:=HP.range hInv 0 rfl rfl;have hgo:=hOi b3 0 s (hgr 0 _ rfl);have hH29:=HP.startB hB9;refine WC.seq fun K30 hK30=>WC.seq fun K31 hK31=>WC.region (WL.z (vI (i:Int)) 28 (WL.z (.slice pvw ((wLs c n n).length) cpw) 29 (WL.z (vI (((wLs c n n).length:Nat):Int)) 30 ?_)))
  by_cases hlt:(i:Int)<(((wLs c n n).length:Nat):Int)
  ·
   refine WL.y (.bool true) 31 (x_lss rfl rfl rfl (dT (hlt))) (WL.k hK31 ?_);refine WC.yes rfl ?_;refine WC.skip (WQ.then (hK30 _ _ _ (WC.seq fun K32 hK32=>WC.block (WC.seq fun K33 hK33=>?_))));obtain⟨u,v,kw,hpw,hlu,hlv,hkw,hmw⟩:=ws_at (c:=c) (n:=n) (i:=i) (by omega);obtain⟨-,hun,-,hvn,-⟩:=G.way kw (Nat.zero_le _) hkw _ hmw;simp only [] at hun hvn;have hun:u<n:=hun;have hvn:v≤n:=hvn;obtain⟨gw,ow,hqw,hrw⟩:=hIW1 (by omega);have hri:World.rangeAt w27 gw (ow+i*2) [vI (u:Int),vI (v:Int)]:=(by rw [← hlu,← hlv];exact hrw i (by omega));have hgw:=hOi gw _ _ (hri 0 _ rfl);subst hqw;refine WC.region (WL.z (.slice (some ⟨gw,ow,none⟩) ((wLs c n n).length) cpw) 34 (WL.z (vI (i:Int)) 35 (WL.y (vP gw (ow+i*2)) 36 (x_ix (i) (ow+i*2) Tryz.underlying63 sz67) (WL.y (vP gw (ow+i*2)) 37 (x_idxArr (0) (ow+i*2) rfl rfl rfl Tryz.underlying67 sz3 (by omega) (by omega) (by omega)) (WL.y (vI (u:Int)) 38 (x_load rfl rfl Tryz.underlying3 rfl ((HP.oldRange hH29 hgw hri) 0 _ rfl)) (WL.z (vI (u:Int)) 12 (WL.k hK33 (WC.sb [(1,.slice p n cap),(2,.bool false),(3,vP b3 0),(7,vS gt (n+1) (n+1)),(8,vS gr (n+1) (n+1)),(9,.slice (some ⟨gw,ow,none⟩) ((wLs c n n).length) cpw),(10,.bool cb),(11,vI (i:Int)),(12,vI (u:Int)),(31,.bool true)] (WC.seq fun K34 hK34=>?_)))))))));refine WC.region (WL.z (.slice (some ⟨gw,ow,none⟩) ((wLs c n n).length) cpw) 39 (WL.z (vI (i:Int)) 40 (WL.y (vP gw (ow+i*2)) 41 (x_ix (i) (ow+i*2) Tryz.underlying63 sz67) (WL.y (vP gw (ow+i*2+1)) 42 (x_idxArr (1) (ow+i*2+1) rfl rfl rfl Tryz.underlying67 sz3 (by omega) (by omega) (by omega)) (WL.y (vI (v:Int)) 43 (x_load rfl rfl Tryz.underlying3 rfl ((HP.oldRange hH29 hgw hri) 1 _ rfl)) (WL.z (vI (v:Int)) 13 (WL.k hK34 (WC.seq fun K35 hK35=>WC.seq fun K36 hK36=>?_))))))));refine WC.region (WL.z (vS gr (n+1) (n+1)) 44 (WL.z (vI (u:Int)) 45 (WL.y (vP gr u) 46 (x_ix (b:=gr) (off:=0) u u Tryz.underlying26 sz4) (WL.y (.bool (f1 u)) 47 (x_load rfl rfl Tryz.underlying4 rfl (HP.cell hH29 1 rfl (brow_get (by omega) rfl))) (WL.z (.bool (!(f1 u))) 48 (WL.k hK36 (WC.sb [(1,.slice p n cap),(2,.bool false),(3,vP b3 0),(7,vS gt (n+1) (n+1)),(8,vS gr (n+1) (n+1)),(9,.slice (some ⟨gw,ow,none⟩) ((wLs c n n).length) cpw),(10,.bool cb),(11,vI (i:Int)),(12,vI (u:Int)),(13,vI (v:Int)),(31,.bool true),(48,.bool (!(f1 u)))] ?_)))))))
   rcases Bool.eq_false_or_eq_true (f1 u) with hfu | hfu
   ·
    refine WC.no (congrArg (fun b=>some (Value.bool (!b))) hfu) ?_;refine WC.skip (WQ.then (hK35 _ _ _ (WC.seq fun K37 hK37=>?_)));have hx9:=line_of (vG_iff.1 hg0).2.2.1 (show u≤999 by omega);refine WC.confG (γ:=Option Addr × Nat × Unit) [(1,.slice p n cap),(2,.bool false),(3,vP b3 0),(7,vS gt (n+1) (n+1)),(8,vS gr (n+1) (n+1)),(9,.slice (some ⟨gw,ow,none⟩) ((wLs c n n).length) cpw),(10,.bool cb),(11,vI (i:Int)),(12,vI (u:Int)),(13,vI (v:Int)),(31,.bool true),(48,.bool (!(f1 u)))] (fun gy=>[.agg #[vI s,vI y,vI l,vI m],vS gt (n+1) (n+1),vI (u:Int),vP gt u,.slice ((T1 u).q) ((T1 u).t.length) ((T1 u).c),vI (u:Int),vP b3 2,vI l,vI ((u:Int)/l),.bool false,.slice gy.1 ((tcH s y ((u:Int)/l) 0 (T1 u).t).length) gy.2.1,.slice gy.1 ((tcH s y ((u:Int)/l) 0 (T1 u).t).length) gy.2.1]) (fun gy D wz=>HP (Out [.cel gt (aR (n+1) T1) 63,.cel gr (brow (n+1) f1) 4]) w27 wz ([.cel gt (aR (n+1) T1) 63,.cel gr (brow (n+1) f1) 4]++((bif D 10 then [rowT gy.1 (tcH s y ((u:Int)/l) 0 (T1 u).t).length gy.2.1 (tcH s y ((u:Int)/l) 0 (T1 u).t)] else [])++[]))) (none,0,()) (by kernel_rfl) ⟨rfl,rfl,rfl,rfl,rfl,rfl,rfl,rfl,rfl,rfl,rfl,rfl,trivial⟩ (by kernel_rfl) (by kernel_rfl) (by kernel_rfl) (fun _=>rfl) (by kernel_rfl) (HP.drew hH29) ?_ ?_
    ·
     refine AllOk.cons ?o0 (AllOk.cons ?o1 (AllOk.cons ?o2 (AllOk.cons ?o3 (AllOk.cons ?o4 (AllOk.cons ?o5 (AllOk.cons ?o6 (AllOk.cons ?o7 (AllOk.cons ?o8 (AllOk.cons ?o9 (AllOk.cons ?o10 (AllOk.cons ?o11 (AllOk.nil _))))))))))))
     case o0 =>
      intro gy D wz hDi hdep hclo hW;exact cfv gy wz (x_loadS (cs:=[vI s,vI y,vI l,vI m]) rfl rfl Tryz.underlying23 rfl sz23 (HP.oldRange hW hgo hgr)) hW
     case o1 =>
      intro gy D wz hDi hdep hclo hW;exact cfv gy wz (by kernel_rfl) hW
     case o2 =>
      intro gy D wz hDi hdep hclo hW;exact cfv gy wz (by kernel_rfl) hW
     case o3 =>
      intro gy D wz hDi hdep hclo hW;exact cfv gy wz (x_ix (b:=gt) (off:=0) u u Tryz.underlying77 sz63) hW
     case o4 =>
      intro gy D wz hDi hdep hclo hW;exact cfv gy wz (x_load rfl rfl Tryz.underlying63 rfl (HP.cell hW 0 rfl (aR_get (by omega)))) hW
     case o5 =>
      intro gy D wz hDi hdep hclo hW;exact cfv gy wz (by kernel_rfl) hW
     case o6 =>
      intro gy D wz hDi hdep hclo hW;exact cfv gy wz (by kernel_rfl) hW
     case o7 =>
      intro gy D wz hDi hdep hclo hW;exact cfv gy wz (x_load rfl rfl Tryz.underlying3 rfl ((HP.oldRange hW hgo hgr) 2 _ rfl)) hW
     case o8 =>
      intro gy D wz hDi hdep hclo hW;exact cfv gy wz (x_quo rfl rfl rfl (by omega) (tdiv_pos (by omega) (by omega)) (by have:=hx9;omega) (by have:=hx9;omega)) hW
     case o9 =>
      intro gy D wz hDi hdep hclo hW;exact cfv gy wz (by kernel_rfl) hW
     case o10 =>
      intro gy D wz hDi hdep hclo hW;have d11:D 11=false:=by
       cases h:D 11 with
       | false=>rfl
       | true=>exact absurd (hclo 11 _ rfl h ⟨10,.data⟩ (by simp) rfl) (by rw [hDi];exact Bool.false_ne_true)
      have hW2:=hW
      try simp only [hDi,cond_true,cond_false,List.append_nil,List.nil_append,List.cons_append] at hW2
      refine .inl ⟨rfl,rfl,.inr (.inr ⟨69,#[.agg #[vI s,vI y,vI l,vI m],.slice ((T1 u).q) ((T1 u).t.length) ((T1 u).c),vI ((u:Int)/l),.bool false],by kernel_rfl,(rtouch0_any (T1 u).q (T1 u).t (T1 u).c s y l m ((u:Int)/l) _ (keepT (hT1 u) hOi hW2).inn (hT1 u).ok).mono ?_⟩)⟩;rintro e w3 ⟨pvt,cpt,rfl,hb9⟩;have hA:=HP.trans hW2 hb9;refine⟨⟨pvt,cpt,()⟩,fun j hj=>?_,rfl,?_⟩
      ·
       match j,hj with
       | 0,hj=>rfl
       | 1,hj=>rfl
       | 2,hj=>rfl
       | 3,hj=>rfl
       | 4,hj=>rfl
       | 5,hj=>rfl
       | 6,hj=>rfl
       | 7,hj=>rfl
       | 8,hj=>rfl
       | 9,hj=>rfl
       | 10,hj=>rw [hDi] at hj;cases hj
       | 11,hj=>exact absurd hj (by rw [d11];exact Bool.false_ne_true)
       | j+12,_=>rfl
      ·
       show HP (Out [.cel gt (aR (n+1) T1) 63,.cel gr (brow (n+1) f1) 4]) w27 w3 ([.cel gt (aR (n+1) T1) 63,.cel gr (brow (n+1) f1) 4]++([rowT pvt (tcH s y ((u:Int)/l) 0 (T1 u).t).length cpt (tcH s y ((u:Int)/l) 0 (T1 u).t)]++[]))
       try simp only [cond_true,cond_false,List.append_nil,List.nil_append,List.cons_append]
       exact hA
     case o11 =>
      intro gy D wz hDi hdep hclo hW;exact cfv gy wz (by kernel_rfl) hW
    rintro ⟨pvt,cpt,gu⟩ D w38 hall hH39;simp only [hall 10 (by kernel_rfl),cond_true,List.append_nil,List.nil_append,List.cons_append] at hH39;clear hall;refine WQ.sb [(1,.slice p n cap),(2,.bool false),(3,vP b3 0),(7,vS gt (n+1) (n+1)),(8,vS gr (n+1) (n+1)),(9,.slice (some ⟨gw,ow,none⟩) ((wLs c n n).length) cpw),(10,.bool cb),(11,vI (i:Int)),(12,vI (u:Int)),(13,vI (v:Int)),(14,.slice pvt ((tcH s y ((u:Int)/l) 0 (T1 u).t).length) cpt),(31,.bool true),(48,.bool (!(f1 u)))] ?_;have hVt:VT s y l m (tcH s y ((u:Int)/l) 0 (T1 u).t):=VT_tc (hT1 u).ok hx9;refine WQ.then (hK37 _ _ _ (WC.seq fun K40 hK40=>WC.seq fun K41 hK41=>WC.region (WL.z (vS gr (n+1) (n+1)) 60 (WL.z (vI (v:Int)) 61 (WL.y (vP gr v) 62 (x_ix (b:=gr) (off:=0) v v Tryz.underlying26 sz4) (WL.y (.bool (f1 v)) 63 (x_load rfl rfl Tryz.underlying4 rfl (HP.cell hH39 1 rfl (brow_get (by omega) rfl))) (WL.k hK41 ?_)))))));rcases Bool.eq_false_or_eq_true (f1 v) with hfv | hfv
    ·
     refine WC.yes (congrArg (fun b=>some (Value.bool b)) hfv) ?_;refine WC.region (WL.z (vS gt (n+1) (n+1)) 64 (WL.z (vI (v:Int)) 65 (WL.y (vP gt v) 66 (x_ix (b:=gt) (off:=0) v v Tryz.underlying77 sz63) (WL.y (.slice ((T1 v).q) ((T1 v).t.length) ((T1 v).c)) 67 (x_load rfl rfl Tryz.underlying63 rfl (HP.cell hH39 0 rfl (aR_get (by omega)))) (WL.z (.slice pvt ((tcH s y ((u:Int)/l) 0 (T1 u).t).length) cpt) 68 (WL.z (.bool false) 69 ?_))))));refine WL.c 70 #[.slice ((T1 v).q) ((T1 v).t.length) ((T1 v).c),.slice pvt ((tcH s y ((u:Int)/l) 0 (T1 u).t).length) cpt,.bool false] 70 ?_;refine(rJoinedF_any (T1 v).q pvt (T1 v).t (tcH s y ((u:Int)/l) 0 (T1 u).t) (T1 v).c cpt  _ (keepT (hT1 v) hOi hH39).inn (InT.own (HP.get hH39 2 rfl)) (by have:=(hT1 v).ok.len;omega) (by have:=hVt.len;omega)).mono ?_;rintro e w42 ⟨pvj,cpj,rfl,hb43⟩;refine⟨_,rfl,?_⟩;have hH44:HP (Out [.cel gt (aR (n+1) T1) 63,.cel gr (brow (n+1) f1) 4]) w27 _ [.cel gt (aR (n+1) T1) 63,.cel gr (brow (n+1) f1) 4,rowT pvt (tcH s y ((u:Int)/l) 0 (T1 u).t).length cpt (tcH s y ((u:Int)/l) 0 (T1 u).t),rowT pvj (rJ false (T1 v).t (tcH s y ((u:Int)/l) 0 (T1 u).t)).length cpj (rJ false (T1 v).t (tcH s y ((u:Int)/l) 0 (T1 u).t))]:=HP.trans hH39 hb43;have hVj:VT s y l m (rJ false (T1 v).t (tcH s y ((u:Int)/l) 0 (T1 u).t)):=(by rw [← jM_eq (hT1 v).ok.so hVt.so];exact VT_jM (hT1 v).ok hVt);have hJe:(rJ false (T1 v).t (tcH s y ((u:Int)/l) 0 (T1 u).t))=(opsM s y l).J (T1 v).t ((opsM s y l).F u (T1 u).t):=(jM_eq (hT1 v).ok.so hVt.so).symm;refine WL.z (.slice pvj ((rJ false (T1 v).t (tcH s y ((u:Int)/l) 0 (T1 u).t)).length) cpj) 14 (WL.k hK40 (WC.sb [(1,.slice p n cap),(2,.bool false),(3,vP b3 0),(7,vS gt (n+1) (n+1)),(8,vS gr (n+1) (n+1)),(9,.slice (some ⟨gw,ow,none⟩) ((wLs c n n).length) cpw),(10,.bool cb),(11,vI (i:Int)),(12,vI (u:Int)),(13,vI (v:Int)),(14,.slice pvj ((rJ false (T1 v).t (tcH s y ((u:Int)/l) 0 (T1 u).t)).length) cpj),(31,.bool true),(48,.bool (!(f1 u))),(63,.bool (f1 v))] (WC.seq fun K45 hK45=>WC.region (WL.z (vS gr (n+1) (n+1)) 71 (WL.z (vI (v:Int)) 72 (WL.y (vP gr v) 73 (x_ix (b:=gr) (off:=0) v v Tryz.underlying26 sz4) (WL.y (.bool true) 74 (x_load rfl rfl Tryz.underlying4 rfl (HP.cell hH44 1 rfl (brow_get (by omega) hfv))) ?_)))))))
     refine WL.z (.bool false) 75 (WL.z (.bool false) 76 (WL.z (.slice pvj ((rJ false (T1 v).t (tcH s y ((u:Int)/l) 0 (T1 u).t)).length) cpj) 77 (WL.z (vS gt (n+1) (n+1)) 78 (WL.z (vI (v:Int)) 79 (WL.y (vP gt v) 80 (x_ix (b:=gt) (off:=0) v v Tryz.underlying77 sz63) (WL.y (.slice ((T1 v).q) ((T1 v).t.length) ((T1 v).c)) 81 (x_load rfl rfl Tryz.underlying63 rfl (HP.cell hH44 0 rfl (aR_get (by omega)))) ?_))))));refine WL.c 71 #[.slice pvj ((rJ false (T1 v).t (tcH s y ((u:Int)/l) 0 (T1 u).t)).length) cpj,.slice ((T1 v).q) ((T1 v).t.length) ((T1 v).c)] 82 ?_;refine(SameTableG_any pvj (T1 v).q (rJ false (T1 v).t (tcH s y ((u:Int)/l) 0 (T1 u).t)) (T1 v).t cpj (T1 v).c _ (InT.own (HP.get hH44 3 rfl)) (keepT (hT1 v) hOi hH44).inn (by have:=hVj.len;omega)).mono ?_;rintro e w46 ⟨rfl,hb47⟩;refine⟨_,rfl,?_⟩;have hH48:=HP.call hH44 hb47;refine WL.z (.bool (!(decide ((rJ false (T1 v).t (tcH s y ((u:Int)/l) 0 (T1 u).t))=(T1 v).t)))) 83 (WL.z (.bool (!(decide ((rJ false (T1 v).t (tcH s y ((u:Int)/l) 0 (T1 u).t))=(T1 v).t)))) 84 (WL.k hK45 (WC.sb [(1,.slice p n cap),(2,.bool false),(3,vP b3 0),(7,vS gt (n+1) (n+1)),(8,vS gr (n+1) (n+1)),(9,.slice (some ⟨gw,ow,none⟩) ((wLs c n n).length) cpw),(10,.bool cb),(11,vI (i:Int)),(12,vI (u:Int)),(13,vI (v:Int)),(14,.slice pvj ((rJ false (T1 v).t (tcH s y ((u:Int)/l) 0 (T1 u).t)).length) cpj),(31,.bool true),(48,.bool (!(f1 u))),(63,.bool (f1 v)),(84,.bool (!(decide ((rJ false (T1 v).t (tcH s y ((u:Int)/l) 0 (T1 u).t))=(T1 v).t))))] ?_)));rcases Bool.eq_false_or_eq_true (decide ((rJ false (T1 v).t (tcH s y ((u:Int)/l) 0 (T1 u).t))=(T1 v).t)) with hsm | hsm
     ·
      refine WC.no (congrArg (fun b=>some (Value.bool (!b))) hsm) ?_;refine WC.skip (WQ.inNormal (WQ.then (hK32 _ _ _ (WC.region (WL.z (vI (i:Int)) 32 (WL.y (vI ((i+1:Nat):Int)) 33 (x_ad (((i+1:Nat):Int))) (WL.z (vI ((i+1:Nat):Int)) 11 (WL.nil ?_))))))));have hF9:HP (Out [.cel gt (aR (n+1) T1) 63,.cel gr (brow (n+1) f1) 4]) w27 _ [.cel gt (aR (n+1) T1) 63,.cel gr (brow (n+1) f1) 4]:=(HP.drop (HP.drop hH48 3) 2);refine WQ.sb [(1,.slice p n cap),(2,.bool false),(3,vP b3 0),(7,vS gt (n+1) (n+1)),(8,vS gr (n+1) (n+1)),(9,.slice (some ⟨gw,ow,none⟩) ((wLs c n n).length) cpw),(10,.bool cb),(11,vI ((i+1:Nat):Int))] ?_;refine WQ.then (hK26 _ _ _ (by omega) ⟨i+1,T1,f1,cb,rfl,rfl,by omega,(fun i9=>keepT (hT1 i9) hOi hF9),keepI hIW1 hOi hF9,hR1,hmu,stab_succ hpw hst (Fl.step_same G (by omega) (VT.nil hg0) (fun a ha=>muM_bd ha) hR1 hkw hmw hfv (hJe.symm.trans (of_decide_eq_true hsm))),(HP.exch (A:=[Go.Proofs.YtmjnakhpekbenaaGreat.Fw.Ent.cel b3 #[vI s,vI y,vI l,vI m] 23]) hInv hF9)⟩)
     ·
      refine WC.yes (congrArg (fun b=>some (Value.bool (!b))) hsm) ?_;refine WC.seq fun K49 hK49=>WC.region (WL.z (.bool true) 10 (WL.k hK49 (WC.seq fun K50 hK50=>WC.region (WL.z (vS gr (n+1) (n+1)) 85 (WL.z (vI (v:Int)) 86 (WL.y (vP gr v) 87 (x_ix (b:=gr) (off:=0) v v Tryz.underlying26 sz4) ?_))))));refine WL.store (c':=brow (n+1) (upB f1 v true)) (H2:=_) 1 hH48 rfl rfl rfl rfl rfl rfl sz4 rfl (by rw [size_brow];omega) (brow_set (n+1) v f1 true) rfl ?_;intro w51 hBw51;have hH52:HP (Out [.cel gt (aR (n+1) T1) 63,.cel gr (brow (n+1) f1) 4]) w27 w51 [.cel gt (aR (n+1) T1) 63,.cel gr (brow (n+1) (upB f1 v true)) 4,rowT pvt (tcH s y ((u:Int)/l) 0 (T1 u).t).length cpt (tcH s y ((u:Int)/l) 0 (T1 u).t),rowT pvj (rJ false (T1 v).t (tcH s y ((u:Int)/l) 0 (T1 u).t)).length cpj (rJ false (T1 v).t (tcH s y ((u:Int)/l) 0 (T1 u).t))]:=hBw51;refine WL.k hK50 (WC.region (WL.z (vS gt (n+1) (n+1)) 88 (WL.z (vI (v:Int)) 89 (WL.z (.slice pvj ((rJ false (T1 v).t (tcH s y ((u:Int)/l) 0 (T1 u).t)).length) cpj) 90 (WL.y (vP gt v) 91 (x_ix (b:=gt) (off:=0) v v Tryz.underlying77 sz63) ?_)))));refine WL.store (c':=aR (n+1) (upA T1 v ⟨pvj,(rJ false (T1 v).t (tcH s y ((u:Int)/l) 0 (T1 u).t)),cpj⟩)) (H2:=_) 0 hH52 rfl rfl rfl rfl rfl rfl sz63 rfl (by rw [aR_size];omega) (aR_set (n+1) v T1 ⟨pvj,(rJ false (T1 v).t (tcH s y ((u:Int)/l) 0 (T1 u).t)),cpj⟩) rfl ?_;intro w53 hBw53;have hH54:HP (Out [.cel gt (aR (n+1) T1) 63,.cel gr (brow (n+1) f1) 4]) w27 w53 [.cel gt (aR (n+1) (upA T1 v ⟨pvj,(rJ false (T1 v).t (tcH s y ((u:Int)/l) 0 (T1 u).t)),cpj⟩)) 63,.cel gr (brow (n+1) (upB f1 v true)) 4,rowT pvt (tcH s y ((u:Int)/l) 0 (T1 u).t).length cpt (tcH s y ((u:Int)/l) 0 (T1 u).t),rowT pvj (rJ false (T1 v).t (tcH s y ((u:Int)/l) 0 (T1 u).t)).length cpj (rJ false (T1 v).t (tcH s y ((u:Int)/l) 0 (T1 u).t))]:=hBw53;refine WL.nil (WQ.inNormal (WQ.then (hK32 _ _ _ (WC.sb [(1,.slice p n cap),(2,.bool false),(3,vP b3 0),(7,vS gt (n+1) (n+1)),(8,vS gr (n+1) (n+1)),(9,.slice (some ⟨gw,ow,none⟩) ((wLs c n n).length) cpw),(10,.bool true),(11,vI (i:Int)),(12,vI (u:Int)),(13,vI (v:Int)),(14,.slice pvj ((rJ false (T1 v).t (tcH s y ((u:Int)/l) 0 (T1 u).t)).length) cpj),(31,.bool true),(48,.bool (!(f1 u))),(63,.bool (f1 v)),(84,.bool (!(decide ((rJ false (T1 v).t (tcH s y ((u:Int)/l) 0 (T1 u).t))=(T1 v).t))))] (WC.region (WL.z (vI (i:Int)) 32 (WL.y (vI ((i+1:Nat):Int)) 33 (x_ad (((i+1:Nat):Int))) (WL.z (vI ((i+1:Nat):Int)) 11 (WL.nil ?_)))))))))
      have hIWn:=keepI hIW1 hOi hH54;have hTn:∀ i9,TbOk s y l m _ ((upA T1 v ⟨pvj,(rJ false (T1 v).t (tcH s y ((u:Int)/l) 0 (T1 u).t)),cpj⟩) i9):=fun i9=>by
             unfold upA;split
             · exact⟨InT.own (HP.get hH54 3 rfl),hVj⟩
             · exact keepT (hT1 i9) hOi hH54
      have hF9:HP (Out [.cel gt (aR (n+1) T1) 63,.cel gr (brow (n+1) f1) 4]) w27 _ [.cel gt (aR (n+1) (upA T1 v ⟨pvj,(rJ false (T1 v).t (tcH s y ((u:Int)/l) 0 (T1 u).t)),cpj⟩)) 63,.cel gr (brow (n+1) (upB f1 v true)) 4]:=(HP.drop (HP.drop hH54 3) 2);obtain⟨hRn,hmn⟩:=Fl.step_chg G (by omega) (VT.nil hg0) (fun a ha=>muM_bd ha) hR1 hkw hmw hfu (X:=(rJ false (T1 v).t (tcH s y ((u:Int)/l) 0 (T1 u).t))) (by show (rJ false (T1 v).t (tcH s y ((u:Int)/l) 0 (T1 u).t))=if f1 v=true then _ else _;rw [if_pos hfv];exact hJe) (fun q=>of_decide_eq_false hsm q.2);rw [← upB_up] at hRn hmn;have hte:tabs (upA T1 v ⟨pvj,(rJ false (T1 v).t (tcH s y ((u:Int)/l) 0 (T1 u).t)),cpj⟩)=Fl.up (tabs T1) v (rJ false (T1 v).t (tcH s y ((u:Int)/l) 0 (T1 u).t)):=tabs_up T1 v ⟨pvj,(rJ false (T1 v).t (tcH s y ((u:Int)/l) 0 (T1 u).t)),cpj⟩;simp only [] at hRn hmn;rw [← hte] at hRn hmn;refine WQ.sb [(1,.slice p n cap),(2,.bool false),(3,vP b3 0),(7,vS gt (n+1) (n+1)),(8,vS gr (n+1) (n+1)),(9,.slice (some ⟨gw,ow,none⟩) ((wLs c n n).length) cpw),(10,.bool true),(11,vI ((i+1:Nat):Int))] ?_;refine WQ.then (hK26 _ _ _ (by omega) ⟨i+1,(upA T1 v ⟨pvj,(rJ false (T1 v).t (tcH s y ((u:Int)/l) 0 (T1 u).t)),cpj⟩),(upB f1 v true),true,rfl,rfl,by omega,hTn,hIWn,hRn,(by have hmn9:Fl.rmu (opsM s y l) 5000 n ⟨tabs (upA T1 v ⟨pvj,(rJ false (T1 v).t (tcH s y ((u:Int)/l) 0 (T1 u).t)),cpj⟩),(upB f1 v true),true⟩<Fl.rmu (opsM s y l) 5000 n ⟨tabs T1,f1,true⟩:=hmn;cases cb <;> simp only [cond_true,cond_false] at hmu ⊢ <;> omega),(fun h=>by cases h),(HP.exch (A:=[Go.Proofs.YtmjnakhpekbenaaGreat.Fw.Ent.cel b3 #[vI s,vI y,vI l,vI m] 23]) hInv hF9)⟩)
    ·
     refine WC.no (congrArg (fun b=>some (Value.bool b)) hfv) ?_;refine WC.skip (WQ.then (hK40 _ _ _ (WC.seq fun K55 hK55=>WC.region (WL.z (vS gr (n+1) (n+1)) 71 (WL.z (vI (v:Int)) 72 (WL.y (vP gr v) 73 (x_ix (b:=gr) (off:=0) v v Tryz.underlying26 sz4) (WL.y (.bool false) 74 (x_load rfl rfl Tryz.underlying4 rfl (HP.cell hH39 1 rfl (brow_get (by omega) hfv))) (WL.z (.bool true) 75 (WL.z (.bool true) 76 (WL.p 77 ?_))))))))));refine WL.p 78 (WL.p 79 (WL.p 80 (WL.p 81 (WL.p 82 (WL.p 83 (WL.z (.bool true) 84 (WL.k hK55 (WC.sb [(1,.slice p n cap),(2,.bool false),(3,vP b3 0),(7,vS gt (n+1) (n+1)),(8,vS gr (n+1) (n+1)),(9,.slice (some ⟨gw,ow,none⟩) ((wLs c n n).length) cpw),(10,.bool cb),(11,vI (i:Int)),(12,vI (u:Int)),(13,vI (v:Int)),(14,.slice pvt ((tcH s y ((u:Int)/l) 0 (T1 u).t).length) cpt),(31,.bool true),(48,.bool (!(f1 u))),(63,.bool (f1 v)),(84,.bool true)] ?_))))))));refine WC.yes rfl ?_;refine WC.seq fun K56 hK56=>WC.region (WL.z (.bool true) 10 (WL.k hK56 (WC.seq fun K57 hK57=>WC.region (WL.z (vS gr (n+1) (n+1)) 85 (WL.z (vI (v:Int)) 86 (WL.y (vP gr v) 87 (x_ix (b:=gr) (off:=0) v v Tryz.underlying26 sz4) ?_))))));refine WL.store (c':=brow (n+1) (upB f1 v true)) (H2:=_) 1 hH39 rfl rfl rfl rfl rfl rfl sz4 rfl (by rw [size_brow];omega) (brow_set (n+1) v f1 true) rfl ?_;intro w58 hBw58;have hH59:HP (Out [.cel gt (aR (n+1) T1) 63,.cel gr (brow (n+1) f1) 4]) w27 w58 [.cel gt (aR (n+1) T1) 63,.cel gr (brow (n+1) (upB f1 v true)) 4,rowT pvt (tcH s y ((u:Int)/l) 0 (T1 u).t).length cpt (tcH s y ((u:Int)/l) 0 (T1 u).t)]:=hBw58;refine WL.k hK57 (WC.region (WL.z (vS gt (n+1) (n+1)) 88 (WL.z (vI (v:Int)) 89 (WL.z (.slice pvt ((tcH s y ((u:Int)/l) 0 (T1 u).t).length) cpt) 90 (WL.y (vP gt v) 91 (x_ix (b:=gt) (off:=0) v v Tryz.underlying77 sz63) ?_)))));refine WL.store (c':=aR (n+1) (upA T1 v ⟨pvt,(tcH s y ((u:Int)/l) 0 (T1 u).t),cpt⟩)) (H2:=_) 0 hH59 rfl rfl rfl rfl rfl rfl sz63 rfl (by rw [aR_size];omega) (aR_set (n+1) v T1 ⟨pvt,(tcH s y ((u:Int)/l) 0 (T1 u).t),cpt⟩) rfl ?_
     intro w60 hBw60;have hH61:HP (Out [.cel gt (aR (n+1) T1) 63,.cel gr (brow (n+1) f1) 4]) w27 w60 [.cel gt (aR (n+1) (upA T1 v ⟨pvt,(tcH s y ((u:Int)/l) 0 (T1 u).t),cpt⟩)) 63,.cel gr (brow (n+1) (upB f1 v true)) 4,rowT pvt (tcH s y ((u:Int)/l) 0 (T1 u).t).length cpt (tcH s y ((u:Int)/l) 0 (T1 u).t)]:=hBw60;refine WL.nil (WQ.inNormal (WQ.then (hK32 _ _ _ (WC.sb [(1,.slice p n cap),(2,.bool false),(3,vP b3 0),(7,vS gt (n+1) (n+1)),(8,vS gr (n+1) (n+1)),(9,.slice (some ⟨gw,ow,none⟩) ((wLs c n n).length) cpw),(10,.bool true),(11,vI (i:Int)),(12,vI (u:Int)),(13,vI (v:Int)),(14,.slice pvt ((tcH s y ((u:Int)/l) 0 (T1 u).t).length) cpt),(31,.bool true),(48,.bool (!(f1 u))),(63,.bool (f1 v)),(84,.bool true)] (WC.region (WL.z (vI (i:Int)) 32 (WL.y (vI ((i+1:Nat):Int)) 33 (x_ad (((i+1:Nat):Int))) (WL.z (vI ((i+1:Nat):Int)) 11 (WL.nil ?_)))))))));have hIWn:=keepI hIW1 hOi hH61;have hTn:∀ i9,TbOk s y l m _ ((upA T1 v ⟨pvt,(tcH s y ((u:Int)/l) 0 (T1 u).t),cpt⟩) i9):=fun i9=>by
           unfold upA;split
           · exact⟨InT.own (HP.get hH61 2 rfl),hVt⟩
           · exact keepT (hT1 i9) hOi hH61
     have hF9:HP (Out [.cel gt (aR (n+1) T1) 63,.cel gr (brow (n+1) f1) 4]) w27 _ [.cel gt (aR (n+1) (upA T1 v ⟨pvt,(tcH s y ((u:Int)/l) 0 (T1 u).t),cpt⟩)) 63,.cel gr (brow (n+1) (upB f1 v true)) 4]:=(HP.drop hH61 2);obtain⟨hRn,hmn⟩:=Fl.step_chg G (by omega) (VT.nil hg0) (fun a ha=>muM_bd ha) hR1 hkw hmw hfu (X:=(tcH s y ((u:Int)/l) 0 (T1 u).t)) (by show (tcH s y ((u:Int)/l) 0 (T1 u).t)=if f1 v=true then _ else _;rw [if_neg (by rw [hfv];exact Bool.false_ne_true)];rfl) (fun q=>absurd (show f1 v=true from q.1) (by rw [hfv];exact Bool.false_ne_true));rw [← upB_up] at hRn hmn;have hte:tabs (upA T1 v ⟨pvt,(tcH s y ((u:Int)/l) 0 (T1 u).t),cpt⟩)=Fl.up (tabs T1) v (tcH s y ((u:Int)/l) 0 (T1 u).t):=tabs_up T1 v ⟨pvt,(tcH s y ((u:Int)/l) 0 (T1 u).t),cpt⟩;simp only [] at hRn hmn;rw [← hte] at hRn hmn;refine WQ.sb [(1,.slice p n cap),(2,.bool false),(3,vP b3 0),(7,vS gt (n+1) (n+1)),(8,vS gr (n+1) (n+1)),(9,.slice (some ⟨gw,ow,none⟩) ((wLs c n n).length) cpw),(10,.bool true),(11,vI ((i+1:Nat):Int))] ?_;refine WQ.then (hK26 _ _ _ (by omega) ⟨i+1,(upA T1 v ⟨pvt,(tcH s y ((u:Int)/l) 0 (T1 u).t),cpt⟩),(upB f1 v true),true,rfl,rfl,by omega,hTn,hIWn,hRn,(by have hmn9:Fl.rmu (opsM s y l) 5000 n ⟨tabs (upA T1 v ⟨pvt,(tcH s y ((u:Int)/l) 0 (T1 u).t),cpt⟩),(upB f1 v true),true⟩<Fl.rmu (opsM s y l) 5000 n ⟨tabs T1,f1,true⟩:=hmn;cases cb <;> simp only [cond_true,cond_false] at hmu ⊢ <;> omega),(fun h=>by cases h),(HP.exch (A:=[Go.Proofs.YtmjnakhpekbenaaGreat.Fw.Ent.cel b3 #[vI s,vI y,vI l,vI m] 23]) hInv hF9)⟩)
   ·
    refine WC.yes (congrArg (fun b=>some (Value.bool (!b))) hfu) ?_;refine WC.exit (WQ.thenExit (WQ.inExit (WQ.then (hK32 _ _ _ (WC.region (WL.z (vI (i:Int)) 32 (WL.y (vI ((i+1:Nat):Int)) 33 (x_ad (((i+1:Nat):Int))) (WL.z (vI ((i+1:Nat):Int)) 11 (WL.nil ?_)))))))));have hF9:HP (Out [.cel gt (aR (n+1) T1) 63,.cel gr (brow (n+1) f1) 4]) w27 _ [.cel gt (aR (n+1) T1) 63,.cel gr (brow (n+1) f1) 4]:=hH29;refine WQ.sb [(1,.slice p n cap),(2,.bool false),(3,vP b3 0),(7,vS gt (n+1) (n+1)),(8,vS gr (n+1) (n+1)),(9,.slice (some ⟨gw,ow,none⟩) ((wLs c n n).length) cpw),(10,.bool cb),(11,vI ((i+1:Nat):Int))] ?_;refine WQ.then (hK26 _ _ _ (by omega) ⟨i+1,T1,f1,cb,rfl,rfl,by omega,(fun i9=>keepT (hT1 i9) hOi hF9),keepI hIW1 hOi hF9,hR1,hmu,stab_succ hpw hst (fun q=>absurd (show f1 u=true from q) (by rw [hfu];exact Bool.false_ne_true)),(HP.exch (A:=[Go.Proofs.YtmjnakhpekbenaaGreat.Fw.Ent.cel b3 #[vI s,vI y,vI l,vI m] 23]) hInv hF9)⟩)
  ·
   refine WL.y (.bool false) 31 (x_lss rfl rfl rfl (dF (hlt))) (WL.k hK31 ?_);refine WC.no rfl ?_;refine WC.exit (WQ.thenExit (WQ.thenExit (WQ.inExit (WQ.inNormal (WQ.sb [(1,.slice p n cap),(2,.bool false),(3,vP b3 0),(7,vS gt (n+1) (n+1)),(8,vS gr (n+1) (n+1)),(9,.slice pvw ((wLs c n n).length) cpw),(10,.bool cb)] ?_)))));refine WQ.then (hK19 _ _ _ (by cases cb <;> simp only [cond_true,cond_false] at hmu ⊢ <;> omega) ⟨T1,f1,cb,rfl,rfl,hT1,hIW1,hR1,(fun h=>ws_all (P:=Stab (latM s y l m hg0) T1 f1) (fun j hj p hq=>hst h j (by omega) p hq)),hInv⟩)
 ·
  refine WC.no (congrArg (fun b=>some (Value.bool b)) hch) ?_;refine WC.exit (WQ.thenExit (WQ.thenExit (WQ.inExit (WQ.then (hK16 _ _ _ (WC.seq fun K62 hK62=>WC.region (WL.z (vS gt (n+1) (n+1)) 92 (WL.z (vS gt (n+1) (n+1)) 6 (WL.nil (WQ.then ?_))))))))));refine hK62 _ _ _ (WC.ret ?_);refine WQ.ret1 6 rfl rfl ?_;have hfin:=Fl.stable_eq G hR0 (hst0 hch);exact⟨gt,T0,rfl,HP.drop (HP.drop hH21 2) 0,hT0,fun v hv=>by have:=(hfin v (by omega)).2;rw [Fl.V_lt hv] at this;exact this⟩
end Ca
end Go.Proofs.YtmjnakhpekbenaaGreat
namespace Go.Proofs.YtmjnakhpekbenaaGreat
set_option maxRecDepth 20000
set_option maxHeartbeats 4000000
open Go.RowKit Fw
namespace Ca
theorem rAhead1_any (s y l m:Int) (p:Option Addr) (n cap:Nat) (c A B:Nat→Int) (w:World) (hIn:Ec.InC w p n c A B) (hg0:vG s y l m=true) (hc:Ec.chk c A B false n=0) :
  Calls Tryz.prog 40 #[.agg #[vI s,vI y,vI l,vI m],.slice p n cap,.bool true] w fun e w'=>∃ gt T',e=.returned (vS gt (n+1) (n+1))∧HP Tr w w' [.cel gt (aR (n+1) T') 63]∧(∀ i,TbOk s y l m w' (T' i))∧∀ v,v<n→tabs T' v=(Fl.sol (opsN s y l) (cdOf c n) (trC c n) [] (fun _=>[])).2 v:=by
 have hn9:=(Ec.chk_ok hc).1;have hg:=vG_iff.1 hg0;have hIs0:=trC_is hc;have G:=Fl.sol_good (L:=(latN s y l m hg0)) (trC c n) 0 n [] (fun _=>[]) hIs0 (by omega) (VT.nil hg0);refine calls_of Tryz.func40 rfl (m:=93) rfl [(0,.agg #[vI s,vI y,vI l,vI m]),(1,.slice p n cap),(2,.bool true)] (Fr_enter [.agg #[vI s,vI y,vI l,vI m],.slice p n cap,.bool true] 93 (Nat.le_of_ble_eq_true rfl)) ?_;have hH1:HP Tr w w []:=HP.refl w;refine WC.seq fun K2 hK2=>WC.region ?_;refine WL.alloc (c:=#[vI s,vI y,vI l,vI m]) (T:=23) hH1 3 rfl (by decide) rfl rfl (fun b3=>vP b3 0) (by kernel_rfl) (fun b3 w3 hw3=>?_);have hH4:HP Tr w w3 [.cel b3 #[vI s,vI y,vI l,vI m] 23]:=hw3.2;have nb3:=hw3.1;clear hw3;refine WL.z (.slice none 0 0) 6 (WL.k hK2 (WC.seq fun K5 hK5=>WC.region (WL.z (.slice p n cap) 15 (WL.z (vI (n:Int)) 16 (WL.y (vI ((n+1:Nat):Int)) 17 (x_ad (((n+1:Nat):Int))) ?_)))));refine WL.alloc (c:=aR (n+1) nilT) (T:=63) hH4 18 rfl (by decide) rfl rfl (fun gt=>vS gt (n+1) (n+1)) (x_makeR rfl rfl rfl (makeT9 (n+1) (by omega) _)) (fun gt w9 hw9=>?_);have hH6:HP Tr w w9 [.cel b3 #[vI s,vI y,vI l,vI m] 23,.cel gt (aR (n+1) nilT) 63]:=hw9.2;clear hw9;refine WL.z (vS gt (n+1) (n+1)) 7 (WL.k hK5 (WC.seq fun K7 hK7=>WC.region (WL.z (.slice p n cap) 19 (WL.z (vI (n:Int)) 20 (WL.y (vI ((n+1:Nat):Int)) 21 (x_ad (((n+1:Nat):Int))) ?_)))));refine WL.alloc (c:=brow (n+1) (fun _=>false)) (T:=4) hH6 22 rfl (by decide) rfl rfl (fun gr=>vS gr (n+1) (n+1)) (x_makeR rfl rfl rfl (makeB (n+1) (by omega) _)) (fun gr w10 hw9=>?_);have hH8:HP Tr w w10 [.cel b3 #[vI s,vI y,vI l,vI m] 23,.cel gt (aR (n+1) nilT) 63,.cel gr (brow (n+1) (fun _=>false)) 4]:=hw9.2;clear hw9;refine WL.z (vS gr (n+1) (n+1)) 8 (WL.k hK7 (WC.sb [(0,.agg #[vI s,vI y,vI l,vI m]),(1,.slice p n cap),(2,.bool true),(3,vP b3 0),(6,.slice none 0 0),(7,vS gt (n+1) (n+1)),(8,vS gr (n+1) (n+1))] (WC.seq fun K9 hK9=>WC.region (WL.z (vS gr (n+1) (n+1)) 23 (WL.y (vP gr 0) 24 (x_ix (0) (0) Tryz.underlying26 sz4) ?_)))))
 refine WL.store (c':=brow (n+1) (upB (fun _=>false) 0 true)) (H2:=_) 2 hH8 rfl rfl rfl rfl rfl rfl sz4 rfl (by rw [size_brow];omega) (brow_set (n+1) 0 (fun _=>false) true) rfl ?_;intro w10 hBw10;have hH11:HP Tr w w10 [.cel b3 #[vI s,vI y,vI l,vI m] 23,.cel gt (aR (n+1) nilT) 63,.cel gr (brow (n+1) (upB (fun _=>false) 0 true)) 4]:=hBw10;refine WL.k hK9 (WC.seq fun K12 hK12=>WC.region (WL.z (.slice p n cap) 25 ?_));refine WL.c 68 #[.slice p n cap] 26 ?_;refine(rWays_any p n cap c A B _ (hIn.below (HP.below hH11)) hc).mono ?_;rintro e w13 ⟨pvw,cpw,rfl,hb14,hwl⟩;refine⟨_,rfl,?_⟩;have hH15:HP Tr w _ [.cel b3 #[vI s,vI y,vI l,vI m] 23,.cel gt (aR (n+1) nilT) 63,.cel gr (brow (n+1) (upB (fun _=>false) 0 true)) 4,rowT pvw (wLs c n n).length cpw (wLs c n n)]:=HP.trans hH11 hb14;refine WL.z (.slice pvw ((wLs c n n).length) cpw) 9 (WL.k hK12 (WC.seq fun K16 hK16=>WC.seq fun K17 hK17=>?_));have hIW0:=InT.own (HP.get hH15 3 rfl);have hH18:HP Tr w _ [.cel b3 #[vI s,vI y,vI l,vI m] 23,.cel gt (aR (n+1) nilT) 63,.cel gr (brow (n+1) (upB (fun _=>false) 0 true)) 4]:=HP.drop hH15 3;refine WC.region (WL.z (.bool true) 10 (WL.k hK17 (WC.block ?_)));refine WC.loop (fun kk0 ll0 ww0=>∃ (T0:Nat→TbI) (f0:Nat→Bool) (ch:Bool),ll0=[(1,.slice p n cap),(2,.bool true),(3,vP b3 0),(7,vS gt (n+1) (n+1)),(8,vS gr (n+1) (n+1)),(9,.slice pvw ((wLs c n n).length) cpw),(10,.bool ch)]∧kk0=(bif ch then Fl.rmu (opsN s y l) 5000 n ⟨tabs T0,f0,true⟩+1 else 0)∧(∀ i9,TbOk s y l m ww0 (T0 i9))∧(InT ww0 pvw (wLs c n n))∧(Fl.RInv (latN s y l m hg0) n [] (Fl.sol (opsN s y l) (cdOf c n) (trC c n) [] (fun _=>[])) ⟨tabs T0,f0,true⟩)∧(ch=false→∀ i,i<n→∀ p∈Fl.ways (cdOf c n) i,Stab (latN s y l m hg0) T0 f0 p)∧HP Tr w ww0 [.cel b3 #[vI s,vI y,vI l,vI m] 23,.cel gt (aR (n+1) T0) 63,.cel gr (brow (n+1) f0) 4]) (Fl.rmu (opsN s y l) 5000 n ⟨tabs nilT,(upB (fun _=>false) 0 true),true⟩+1) [(1,.slice p n cap),(2,.bool true),(3,vP b3 0),(7,vS gt (n+1) (n+1)),(8,vS gr (n+1) (n+1)),(9,.slice pvw ((wLs c n n).length) cpw),(10,.bool true)] ⟨rfl,rfl,rfl,rfl,rfl,rfl,rfl,trivial⟩ ⟨nilT,(upB (fun _=>false) 0 true),true,rfl,rfl,(fun i9=>nil_ok hg0),hIW0,(Fl.start_inv G (VT.nil hg0) rfl (fun v hv=>by unfold upB at hv;split at hv;assumption;cases hv) rfl),(fun h=>by cases h),hH18⟩ ?_
 rintro kk l w20 ⟨T0,f0,ch,rfl,hkk,hT0,hIW,hR0,hst0,hH21⟩ K19 hK19;refine WC.seq fun K22 hK22=>WC.seq fun K23 hK23=>WC.region (WL.z (.bool ch) 27 (WL.k hK23 ?_));rcases Bool.eq_false_or_eq_true (ch) with hch | hch
 ·
  simp only [hch,cond_true] at hkk;clear hst0;refine WC.yes (congrArg (fun b=>some (Value.bool b)) hch) ?_;refine WC.skip (WQ.then (hK22 _ _ _ (WC.block (WC.seq fun K24 hK24=>WC.region (WL.z (.bool false) 10 (WL.k hK24 (WC.seq fun K25 hK25=>WC.region ?_)))))));refine WL.z (vI 0) 11 (WL.k hK25 (WC.block ?_));refine WC.loop (fun kk0 ll0 ww0=>∃ (i:Nat) (T1:Nat→TbI) (f1:Nat→Bool) (cb:Bool),ll0=[(1,.slice p n cap),(2,.bool true),(3,vP b3 0),(7,vS gt (n+1) (n+1)),(8,vS gr (n+1) (n+1)),(9,.slice pvw ((wLs c n n).length) cpw),(10,.bool cb),(11,vI (i:Int))]∧kk0=(wLs c n n).length-i∧(i≤(wLs c n n).length)∧(∀ i9,TbOk s y l m ww0 (T1 i9))∧(InT ww0 pvw (wLs c n n))∧(Fl.RInv (latN s y l m hg0) n [] (Fl.sol (opsN s y l) (cdOf c n) (trC c n) [] (fun _=>[])) ⟨tabs T1,f1,true⟩)∧(Fl.rmu (opsN s y l) 5000 n ⟨tabs T1,f1,true⟩+(bif cb then 1 else 0)≤Fl.rmu (opsN s y l) 5000 n ⟨tabs T0,f0,true⟩)∧(cb=false→∀ j,j<i→∀ p,(wsN c n)[j]?=some p→Stab (latN s y l m hg0) T1 f1 p)∧HP Tr w ww0 [.cel b3 #[vI s,vI y,vI l,vI m] 23,.cel gt (aR (n+1) T1) 63,.cel gr (brow (n+1) f1) 4]) ((wLs c n n).length) [(1,.slice p n cap),(2,.bool true),(3,vP b3 0),(7,vS gt (n+1) (n+1)),(8,vS gr (n+1) (n+1)),(9,.slice pvw ((wLs c n n).length) cpw),(10,.bool false),(11,vI 0)] ⟨rfl,rfl,rfl,rfl,rfl,rfl,rfl,rfl,trivial⟩ ⟨0,T0,f0,false,rfl,rfl,Nat.zero_le _,hT0,hIW,hR0,Nat.le_refl _,(fun _ j hj=>absurd hj (Nat.not_lt_zero _)),hH21⟩ ?_;rintro kk l w27 ⟨i,T1,f1,cb,rfl,hkk,hi,hT1,hIW1,hR1,hmu,hst,hH28⟩ K26 hK26;have hInv:=hH28;have hB9:=HP.ownB (A:=[.cel b3 #[vI s,vI y,vI l,vI m] 23]) hInv;have hOi:=fun b o x hc=>out_ib hB9 (b:=b) (o:=o) (x:=x) hc;have hgr:World.rangeAt w27 b3 0 [vI s,vI y,vI l,vI m]:=HP.range hInv 0 rfl rfl;have hgo:=hOi b3 0 s (hgr 0 _ rfl);have hH29:=HP.startB hB9;refine WC.seq fun K30 hK30=>WC.seq fun K31 hK31=>WC.region (WL.z (vI (i:Int)) 28 (WL.z (.slice pvw ((wLs c n n).length) cpw) 29 (WL.z (vI (((wLs c n n).length:Nat):Int)) 30 ?_)))
  by_cases hlt:(i:Int)<(((wLs c n n).length:Nat):Int)
  ·
   refine WL.y (.bool true) 31 (x_lss rfl rfl rfl (dT (hlt))) (WL.k hK31 ?_);refine WC.yes rfl ?_;refine WC.skip (WQ.then (hK30 _ _ _ (WC.seq fun K32 hK32=>WC.block (WC.seq fun K33 hK33=>?_))));obtain⟨u,v,kw,hpw,hlu,hlv,hkw,hmw⟩:=ws_at (c:=c) (n:=n) (i:=i) (by omega);obtain⟨-,hun,-,hvn,-⟩:=G.way kw (Nat.zero_le _) hkw _ hmw;simp only [] at hun hvn;have hun:u<n:=hun;have hvn:v≤n:=hvn;obtain⟨gw,ow,hqw,hrw⟩:=hIW1 (by omega);have hri:World.rangeAt w27 gw (ow+i*2) [vI (u:Int),vI (v:Int)]:=(by rw [← hlu,← hlv];exact hrw i (by omega));have hgw:=hOi gw _ _ (hri 0 _ rfl);subst hqw;refine WC.region (WL.z (.slice (some ⟨gw,ow,none⟩) ((wLs c n n).length) cpw) 34 (WL.z (vI (i:Int)) 35 (WL.y (vP gw (ow+i*2)) 36 (x_ix (i) (ow+i*2) Tryz.underlying63 sz67) (WL.y (vP gw (ow+i*2)) 37 (x_idxArr (0) (ow+i*2) rfl rfl rfl Tryz.underlying67 sz3 (by omega) (by omega) (by omega)) (WL.y (vI (u:Int)) 38 (x_load rfl rfl Tryz.underlying3 rfl ((HP.oldRange hH29 hgw hri) 0 _ rfl)) (WL.z (vI (u:Int)) 12 (WL.k hK33 (WC.sb [(1,.slice p n cap),(2,.bool true),(3,vP b3 0),(7,vS gt (n+1) (n+1)),(8,vS gr (n+1) (n+1)),(9,.slice (some ⟨gw,ow,none⟩) ((wLs c n n).length) cpw),(10,.bool cb),(11,vI (i:Int)),(12,vI (u:Int)),(31,.bool true)] (WC.seq fun K34 hK34=>?_)))))))));refine WC.region (WL.z (.slice (some ⟨gw,ow,none⟩) ((wLs c n n).length) cpw) 39 (WL.z (vI (i:Int)) 40 (WL.y (vP gw (ow+i*2)) 41 (x_ix (i) (ow+i*2) Tryz.underlying63 sz67) (WL.y (vP gw (ow+i*2+1)) 42 (x_idxArr (1) (ow+i*2+1) rfl rfl rfl Tryz.underlying67 sz3 (by omega) (by omega) (by omega)) (WL.y (vI (v:Int)) 43 (x_load rfl rfl Tryz.underlying3 rfl ((HP.oldRange hH29 hgw hri) 1 _ rfl)) (WL.z (vI (v:Int)) 13 (WL.k hK34 (WC.seq fun K35 hK35=>WC.seq fun K36 hK36=>?_))))))));refine WC.region (WL.z (vS gr (n+1) (n+1)) 44 (WL.z (vI (u:Int)) 45 (WL.y (vP gr u) 46 (x_ix (b:=gr) (off:=0) u u Tryz.underlying26 sz4) (WL.y (.bool (f1 u)) 47 (x_load rfl rfl Tryz.underlying4 rfl (HP.cell hH29 1 rfl (brow_get (by omega) rfl))) (WL.z (.bool (!(f1 u))) 48 (WL.k hK36 (WC.sb [(1,.slice p n cap),(2,.bool true),(3,vP b3 0),(7,vS gt (n+1) (n+1)),(8,vS gr (n+1) (n+1)),(9,.slice (some ⟨gw,ow,none⟩) ((wLs c n n).length) cpw),(10,.bool cb),(11,vI (i:Int)),(12,vI (u:Int)),(13,vI (v:Int)),(31,.bool true),(48,.bool (!(f1 u)))] ?_)))))))
   rcases Bool.eq_false_or_eq_true (f1 u) with hfu | hfu
   ·
    refine WC.no (congrArg (fun b=>some (Value.bool (!b))) hfu) ?_;refine WC.skip (WQ.then (hK35 _ _ _ (WC.seq fun K37 hK37=>?_)));have hx9:=line_of (vG_iff.1 hg0).2.2.1 (show u≤999 by omega);refine WC.confG (γ:=Option Addr × Nat × Unit) [(1,.slice p n cap),(2,.bool true),(3,vP b3 0),(7,vS gt (n+1) (n+1)),(8,vS gr (n+1) (n+1)),(9,.slice (some ⟨gw,ow,none⟩) ((wLs c n n).length) cpw),(10,.bool cb),(11,vI (i:Int)),(12,vI (u:Int)),(13,vI (v:Int)),(31,.bool true),(48,.bool (!(f1 u)))] (fun gy=>[.agg #[vI s,vI y,vI l,vI m],vS gt (n+1) (n+1),vI (u:Int),vP gt u,.slice ((T1 u).q) ((T1 u).t.length) ((T1 u).c),vI (u:Int),vP b3 2,vI l,vI ((u:Int)/l),.bool true,.slice gy.1 ((tcH s y ((u:Int)/l) 1 (T1 u).t).length) gy.2.1,.slice gy.1 ((tcH s y ((u:Int)/l) 1 (T1 u).t).length) gy.2.1]) (fun gy D wz=>HP (Out [.cel gt (aR (n+1) T1) 63,.cel gr (brow (n+1) f1) 4]) w27 wz ([.cel gt (aR (n+1) T1) 63,.cel gr (brow (n+1) f1) 4]++((bif D 10 then [rowT gy.1 (tcH s y ((u:Int)/l) 1 (T1 u).t).length gy.2.1 (tcH s y ((u:Int)/l) 1 (T1 u).t)] else [])++[]))) (none,0,()) (by kernel_rfl) ⟨rfl,rfl,rfl,rfl,rfl,rfl,rfl,rfl,rfl,rfl,rfl,rfl,trivial⟩ (by kernel_rfl) (by kernel_rfl) (by kernel_rfl) (fun _=>rfl) (by kernel_rfl) (HP.drew hH29) ?_ ?_
    ·
     refine AllOk.cons ?o0 (AllOk.cons ?o1 (AllOk.cons ?o2 (AllOk.cons ?o3 (AllOk.cons ?o4 (AllOk.cons ?o5 (AllOk.cons ?o6 (AllOk.cons ?o7 (AllOk.cons ?o8 (AllOk.cons ?o9 (AllOk.cons ?o10 (AllOk.cons ?o11 (AllOk.nil _))))))))))))
     case o0 =>
      intro gy D wz hDi hdep hclo hW;exact cfv gy wz (x_loadS (cs:=[vI s,vI y,vI l,vI m]) rfl rfl Tryz.underlying23 rfl sz23 (HP.oldRange hW hgo hgr)) hW
     case o1 =>
      intro gy D wz hDi hdep hclo hW;exact cfv gy wz (by kernel_rfl) hW
     case o2 =>
      intro gy D wz hDi hdep hclo hW;exact cfv gy wz (by kernel_rfl) hW
     case o3 =>
      intro gy D wz hDi hdep hclo hW;exact cfv gy wz (x_ix (b:=gt) (off:=0) u u Tryz.underlying77 sz63) hW
     case o4 =>
      intro gy D wz hDi hdep hclo hW;exact cfv gy wz (x_load rfl rfl Tryz.underlying63 rfl (HP.cell hW 0 rfl (aR_get (by omega)))) hW
     case o5 =>
      intro gy D wz hDi hdep hclo hW;exact cfv gy wz (by kernel_rfl) hW
     case o6 =>
      intro gy D wz hDi hdep hclo hW;exact cfv gy wz (by kernel_rfl) hW
     case o7 =>
      intro gy D wz hDi hdep hclo hW;exact cfv gy wz (x_load rfl rfl Tryz.underlying3 rfl ((HP.oldRange hW hgo hgr) 2 _ rfl)) hW
     case o8 =>
      intro gy D wz hDi hdep hclo hW;exact cfv gy wz (x_quo rfl rfl rfl (by omega) (tdiv_pos (by omega) (by omega)) (by have:=hx9;omega) (by have:=hx9;omega)) hW
     case o9 =>
      intro gy D wz hDi hdep hclo hW;exact cfv gy wz (by kernel_rfl) hW
     case o10 =>
      intro gy D wz hDi hdep hclo hW;have d11:D 11=false:=by
       cases h:D 11 with
       | false=>rfl
       | true=>exact absurd (hclo 11 _ rfl h ⟨10,.data⟩ (by simp) rfl) (by rw [hDi];exact Bool.false_ne_true)
      have hW2:=hW
      try simp only [hDi,cond_true,cond_false,List.append_nil,List.nil_append,List.cons_append] at hW2
      refine .inl ⟨rfl,rfl,.inr (.inr ⟨69,#[.agg #[vI s,vI y,vI l,vI m],.slice ((T1 u).q) ((T1 u).t.length) ((T1 u).c),vI ((u:Int)/l),.bool true],by kernel_rfl,(rtouch1_any (T1 u).q (T1 u).t (T1 u).c s y l m ((u:Int)/l) _ (keepT (hT1 u) hOi hW2).inn (hT1 u).ok).mono ?_⟩)⟩;rintro e w3 ⟨pvt,cpt,rfl,hb9⟩;have hA:=HP.trans hW2 hb9;refine⟨⟨pvt,cpt,()⟩,fun j hj=>?_,rfl,?_⟩
      ·
       match j,hj with
       | 0,hj=>rfl
       | 1,hj=>rfl
       | 2,hj=>rfl
       | 3,hj=>rfl
       | 4,hj=>rfl
       | 5,hj=>rfl
       | 6,hj=>rfl
       | 7,hj=>rfl
       | 8,hj=>rfl
       | 9,hj=>rfl
       | 10,hj=>rw [hDi] at hj;cases hj
       | 11,hj=>exact absurd hj (by rw [d11];exact Bool.false_ne_true)
       | j+12,_=>rfl
      ·
       show HP (Out [.cel gt (aR (n+1) T1) 63,.cel gr (brow (n+1) f1) 4]) w27 w3 ([.cel gt (aR (n+1) T1) 63,.cel gr (brow (n+1) f1) 4]++([rowT pvt (tcH s y ((u:Int)/l) 1 (T1 u).t).length cpt (tcH s y ((u:Int)/l) 1 (T1 u).t)]++[]))
       try simp only [cond_true,cond_false,List.append_nil,List.nil_append,List.cons_append]
       exact hA
     case o11 =>
      intro gy D wz hDi hdep hclo hW;exact cfv gy wz (by kernel_rfl) hW
    rintro ⟨pvt,cpt,gu⟩ D w38 hall hH39;simp only [hall 10 (by kernel_rfl),cond_true,List.append_nil,List.nil_append,List.cons_append] at hH39;clear hall;refine WQ.sb [(1,.slice p n cap),(2,.bool true),(3,vP b3 0),(7,vS gt (n+1) (n+1)),(8,vS gr (n+1) (n+1)),(9,.slice (some ⟨gw,ow,none⟩) ((wLs c n n).length) cpw),(10,.bool cb),(11,vI (i:Int)),(12,vI (u:Int)),(13,vI (v:Int)),(14,.slice pvt ((tcH s y ((u:Int)/l) 1 (T1 u).t).length) cpt),(31,.bool true),(48,.bool (!(f1 u)))] ?_;have hVt:VT s y l m (tcH s y ((u:Int)/l) 1 (T1 u).t):=VT_tc (hT1 u).ok hx9;refine WQ.then (hK37 _ _ _ (WC.seq fun K40 hK40=>WC.seq fun K41 hK41=>WC.region (WL.z (vS gr (n+1) (n+1)) 60 (WL.z (vI (v:Int)) 61 (WL.y (vP gr v) 62 (x_ix (b:=gr) (off:=0) v v Tryz.underlying26 sz4) (WL.y (.bool (f1 v)) 63 (x_load rfl rfl Tryz.underlying4 rfl (HP.cell hH39 1 rfl (brow_get (by omega) rfl))) (WL.k hK41 ?_)))))));rcases Bool.eq_false_or_eq_true (f1 v) with hfv | hfv
    ·
     refine WC.yes (congrArg (fun b=>some (Value.bool b)) hfv) ?_;refine WC.region (WL.z (vS gt (n+1) (n+1)) 64 (WL.z (vI (v:Int)) 65 (WL.y (vP gt v) 66 (x_ix (b:=gt) (off:=0) v v Tryz.underlying77 sz63) (WL.y (.slice ((T1 v).q) ((T1 v).t.length) ((T1 v).c)) 67 (x_load rfl rfl Tryz.underlying63 rfl (HP.cell hH39 0 rfl (aR_get (by omega)))) (WL.z (.slice pvt ((tcH s y ((u:Int)/l) 1 (T1 u).t).length) cpt) 68 (WL.z (.bool true) 69 ?_))))));refine WL.c 70 #[.slice ((T1 v).q) ((T1 v).t.length) ((T1 v).c),.slice pvt ((tcH s y ((u:Int)/l) 1 (T1 u).t).length) cpt,.bool true] 70 ?_;refine(rJoined_any (T1 v).q pvt (T1 v).t (tcH s y ((u:Int)/l) 1 (T1 u).t) (T1 v).c cpt true _ (keepT (hT1 v) hOi hH39).inn (InT.own (HP.get hH39 2 rfl)) (by have:=(hT1 v).ok.len;omega) (by have:=hVt.len;omega)).mono ?_;rintro e w42 ⟨pvj,cpj,rfl,hb43⟩;refine⟨_,rfl,?_⟩;have hH44:HP (Out [.cel gt (aR (n+1) T1) 63,.cel gr (brow (n+1) f1) 4]) w27 _ [.cel gt (aR (n+1) T1) 63,.cel gr (brow (n+1) f1) 4,rowT pvt (tcH s y ((u:Int)/l) 1 (T1 u).t).length cpt (tcH s y ((u:Int)/l) 1 (T1 u).t),rowT pvj (rJ true (T1 v).t (tcH s y ((u:Int)/l) 1 (T1 u).t)).length cpj (rJ true (T1 v).t (tcH s y ((u:Int)/l) 1 (T1 u).t))]:=HP.trans hH39 hb43;have hVj:VT s y l m (rJ true (T1 v).t (tcH s y ((u:Int)/l) 1 (T1 u).t)):=VT_rJ (hT1 v).ok hVt;have hJe:(rJ true (T1 v).t (tcH s y ((u:Int)/l) 1 (T1 u).t))=(opsN s y l).J (T1 v).t ((opsN s y l).F u (T1 u).t):=rfl;refine WL.z (.slice pvj ((rJ true (T1 v).t (tcH s y ((u:Int)/l) 1 (T1 u).t)).length) cpj) 14 (WL.k hK40 (WC.sb [(1,.slice p n cap),(2,.bool true),(3,vP b3 0),(7,vS gt (n+1) (n+1)),(8,vS gr (n+1) (n+1)),(9,.slice (some ⟨gw,ow,none⟩) ((wLs c n n).length) cpw),(10,.bool cb),(11,vI (i:Int)),(12,vI (u:Int)),(13,vI (v:Int)),(14,.slice pvj ((rJ true (T1 v).t (tcH s y ((u:Int)/l) 1 (T1 u).t)).length) cpj),(31,.bool true),(48,.bool (!(f1 u))),(63,.bool (f1 v))] (WC.seq fun K45 hK45=>WC.region (WL.z (vS gr (n+1) (n+1)) 71 (WL.z (vI (v:Int)) 72 (WL.y (vP gr v) 73 (x_ix (b:=gr) (off:=0) v v Tryz.underlying26 sz4) (WL.y (.bool true) 74 (x_load rfl rfl Tryz.underlying4 rfl (HP.cell hH44 1 rfl (brow_get (by omega) hfv))) ?_)))))))
     refine WL.z (.bool false) 75 (WL.z (.bool false) 76 (WL.z (.slice pvj ((rJ true (T1 v).t (tcH s y ((u:Int)/l) 1 (T1 u).t)).length) cpj) 77 (WL.z (vS gt (n+1) (n+1)) 78 (WL.z (vI (v:Int)) 79 (WL.y (vP gt v) 80 (x_ix (b:=gt) (off:=0) v v Tryz.underlying77 sz63) (WL.y (.slice ((T1 v).q) ((T1 v).t.length) ((T1 v).c)) 81 (x_load rfl rfl Tryz.underlying63 rfl (HP.cell hH44 0 rfl (aR_get (by omega)))) ?_))))));refine WL.c 71 #[.slice pvj ((rJ true (T1 v).t (tcH s y ((u:Int)/l) 1 (T1 u).t)).length) cpj,.slice ((T1 v).q) ((T1 v).t.length) ((T1 v).c)] 82 ?_;refine(SameTableG_any pvj (T1 v).q (rJ true (T1 v).t (tcH s y ((u:Int)/l) 1 (T1 u).t)) (T1 v).t cpj (T1 v).c _ (InT.own (HP.get hH44 3 rfl)) (keepT (hT1 v) hOi hH44).inn (by have:=hVj.len;omega)).mono ?_;rintro e w46 ⟨rfl,hb47⟩;refine⟨_,rfl,?_⟩;have hH48:=HP.call hH44 hb47;refine WL.z (.bool (!(decide ((rJ true (T1 v).t (tcH s y ((u:Int)/l) 1 (T1 u).t))=(T1 v).t)))) 83 (WL.z (.bool (!(decide ((rJ true (T1 v).t (tcH s y ((u:Int)/l) 1 (T1 u).t))=(T1 v).t)))) 84 (WL.k hK45 (WC.sb [(1,.slice p n cap),(2,.bool true),(3,vP b3 0),(7,vS gt (n+1) (n+1)),(8,vS gr (n+1) (n+1)),(9,.slice (some ⟨gw,ow,none⟩) ((wLs c n n).length) cpw),(10,.bool cb),(11,vI (i:Int)),(12,vI (u:Int)),(13,vI (v:Int)),(14,.slice pvj ((rJ true (T1 v).t (tcH s y ((u:Int)/l) 1 (T1 u).t)).length) cpj),(31,.bool true),(48,.bool (!(f1 u))),(63,.bool (f1 v)),(84,.bool (!(decide ((rJ true (T1 v).t (tcH s y ((u:Int)/l) 1 (T1 u).t))=(T1 v).t))))] ?_)));rcases Bool.eq_false_or_eq_true (decide ((rJ true (T1 v).t (tcH s y ((u:Int)/l) 1 (T1 u).t))=(T1 v).t)) with hsm | hsm
     ·
      refine WC.no (congrArg (fun b=>some (Value.bool (!b))) hsm) ?_;refine WC.skip (WQ.inNormal (WQ.then (hK32 _ _ _ (WC.region (WL.z (vI (i:Int)) 32 (WL.y (vI ((i+1:Nat):Int)) 33 (x_ad (((i+1:Nat):Int))) (WL.z (vI ((i+1:Nat):Int)) 11 (WL.nil ?_))))))));have hF9:HP (Out [.cel gt (aR (n+1) T1) 63,.cel gr (brow (n+1) f1) 4]) w27 _ [.cel gt (aR (n+1) T1) 63,.cel gr (brow (n+1) f1) 4]:=(HP.drop (HP.drop hH48 3) 2);refine WQ.sb [(1,.slice p n cap),(2,.bool true),(3,vP b3 0),(7,vS gt (n+1) (n+1)),(8,vS gr (n+1) (n+1)),(9,.slice (some ⟨gw,ow,none⟩) ((wLs c n n).length) cpw),(10,.bool cb),(11,vI ((i+1:Nat):Int))] ?_;refine WQ.then (hK26 _ _ _ (by omega) ⟨i+1,T1,f1,cb,rfl,rfl,by omega,(fun i9=>keepT (hT1 i9) hOi hF9),keepI hIW1 hOi hF9,hR1,hmu,stab_succ hpw hst (Fl.step_same G (by omega) (VT.nil hg0) (fun a ha=>muN_bd ha) hR1 hkw hmw hfv (hJe.symm.trans (of_decide_eq_true hsm))),(HP.exch (A:=[Go.Proofs.YtmjnakhpekbenaaGreat.Fw.Ent.cel b3 #[vI s,vI y,vI l,vI m] 23]) hInv hF9)⟩)
     ·
      refine WC.yes (congrArg (fun b=>some (Value.bool (!b))) hsm) ?_;refine WC.seq fun K49 hK49=>WC.region (WL.z (.bool true) 10 (WL.k hK49 (WC.seq fun K50 hK50=>WC.region (WL.z (vS gr (n+1) (n+1)) 85 (WL.z (vI (v:Int)) 86 (WL.y (vP gr v) 87 (x_ix (b:=gr) (off:=0) v v Tryz.underlying26 sz4) ?_))))));refine WL.store (c':=brow (n+1) (upB f1 v true)) (H2:=_) 1 hH48 rfl rfl rfl rfl rfl rfl sz4 rfl (by rw [size_brow];omega) (brow_set (n+1) v f1 true) rfl ?_;intro w51 hBw51;have hH52:HP (Out [.cel gt (aR (n+1) T1) 63,.cel gr (brow (n+1) f1) 4]) w27 w51 [.cel gt (aR (n+1) T1) 63,.cel gr (brow (n+1) (upB f1 v true)) 4,rowT pvt (tcH s y ((u:Int)/l) 1 (T1 u).t).length cpt (tcH s y ((u:Int)/l) 1 (T1 u).t),rowT pvj (rJ true (T1 v).t (tcH s y ((u:Int)/l) 1 (T1 u).t)).length cpj (rJ true (T1 v).t (tcH s y ((u:Int)/l) 1 (T1 u).t))]:=hBw51;refine WL.k hK50 (WC.region (WL.z (vS gt (n+1) (n+1)) 88 (WL.z (vI (v:Int)) 89 (WL.z (.slice pvj ((rJ true (T1 v).t (tcH s y ((u:Int)/l) 1 (T1 u).t)).length) cpj) 90 (WL.y (vP gt v) 91 (x_ix (b:=gt) (off:=0) v v Tryz.underlying77 sz63) ?_)))));refine WL.store (c':=aR (n+1) (upA T1 v ⟨pvj,(rJ true (T1 v).t (tcH s y ((u:Int)/l) 1 (T1 u).t)),cpj⟩)) (H2:=_) 0 hH52 rfl rfl rfl rfl rfl rfl sz63 rfl (by rw [aR_size];omega) (aR_set (n+1) v T1 ⟨pvj,(rJ true (T1 v).t (tcH s y ((u:Int)/l) 1 (T1 u).t)),cpj⟩) rfl ?_;intro w53 hBw53;have hH54:HP (Out [.cel gt (aR (n+1) T1) 63,.cel gr (brow (n+1) f1) 4]) w27 w53 [.cel gt (aR (n+1) (upA T1 v ⟨pvj,(rJ true (T1 v).t (tcH s y ((u:Int)/l) 1 (T1 u).t)),cpj⟩)) 63,.cel gr (brow (n+1) (upB f1 v true)) 4,rowT pvt (tcH s y ((u:Int)/l) 1 (T1 u).t).length cpt (tcH s y ((u:Int)/l) 1 (T1 u).t),rowT pvj (rJ true (T1 v).t (tcH s y ((u:Int)/l) 1 (T1 u).t)).length cpj (rJ true (T1 v).t (tcH s y ((u:Int)/l) 1 (T1 u).t))]:=hBw53;refine WL.nil (WQ.inNormal (WQ.then (hK32 _ _ _ (WC.sb [(1,.slice p n cap),(2,.bool true),(3,vP b3 0),(7,vS gt (n+1) (n+1)),(8,vS gr (n+1) (n+1)),(9,.slice (some ⟨gw,ow,none⟩) ((wLs c n n).length) cpw),(10,.bool true),(11,vI (i:Int)),(12,vI (u:Int)),(13,vI (v:Int)),(14,.slice pvj ((rJ true (T1 v).t (tcH s y ((u:Int)/l) 1 (T1 u).t)).length) cpj),(31,.bool true),(48,.bool (!(f1 u))),(63,.bool (f1 v)),(84,.bool (!(decide ((rJ true (T1 v).t (tcH s y ((u:Int)/l) 1 (T1 u).t))=(T1 v).t))))] (WC.region (WL.z (vI (i:Int)) 32 (WL.y (vI ((i+1:Nat):Int)) 33 (x_ad (((i+1:Nat):Int))) (WL.z (vI ((i+1:Nat):Int)) 11 (WL.nil ?_)))))))))
      have hIWn:=keepI hIW1 hOi hH54;have hTn:∀ i9,TbOk s y l m _ ((upA T1 v ⟨pvj,(rJ true (T1 v).t (tcH s y ((u:Int)/l) 1 (T1 u).t)),cpj⟩) i9):=fun i9=>by
             unfold upA;split
             · exact⟨InT.own (HP.get hH54 3 rfl),hVj⟩
             · exact keepT (hT1 i9) hOi hH54
      have hF9:HP (Out [.cel gt (aR (n+1) T1) 63,.cel gr (brow (n+1) f1) 4]) w27 _ [.cel gt (aR (n+1) (upA T1 v ⟨pvj,(rJ true (T1 v).t (tcH s y ((u:Int)/l) 1 (T1 u).t)),cpj⟩)) 63,.cel gr (brow (n+1) (upB f1 v true)) 4]:=(HP.drop (HP.drop hH54 3) 2);obtain⟨hRn,hmn⟩:=Fl.step_chg G (by omega) (VT.nil hg0) (fun a ha=>muN_bd ha) hR1 hkw hmw hfu (X:=(rJ true (T1 v).t (tcH s y ((u:Int)/l) 1 (T1 u).t))) (by show (rJ true (T1 v).t (tcH s y ((u:Int)/l) 1 (T1 u).t))=if f1 v=true then _ else _;rw [if_pos hfv];exact hJe) (fun q=>of_decide_eq_false hsm q.2);rw [← upB_up] at hRn hmn;have hte:tabs (upA T1 v ⟨pvj,(rJ true (T1 v).t (tcH s y ((u:Int)/l) 1 (T1 u).t)),cpj⟩)=Fl.up (tabs T1) v (rJ true (T1 v).t (tcH s y ((u:Int)/l) 1 (T1 u).t)):=tabs_up T1 v ⟨pvj,(rJ true (T1 v).t (tcH s y ((u:Int)/l) 1 (T1 u).t)),cpj⟩;simp only [] at hRn hmn;rw [← hte] at hRn hmn;refine WQ.sb [(1,.slice p n cap),(2,.bool true),(3,vP b3 0),(7,vS gt (n+1) (n+1)),(8,vS gr (n+1) (n+1)),(9,.slice (some ⟨gw,ow,none⟩) ((wLs c n n).length) cpw),(10,.bool true),(11,vI ((i+1:Nat):Int))] ?_;refine WQ.then (hK26 _ _ _ (by omega) ⟨i+1,(upA T1 v ⟨pvj,(rJ true (T1 v).t (tcH s y ((u:Int)/l) 1 (T1 u).t)),cpj⟩),(upB f1 v true),true,rfl,rfl,by omega,hTn,hIWn,hRn,(by have hmn9:Fl.rmu (opsN s y l) 5000 n ⟨tabs (upA T1 v ⟨pvj,(rJ true (T1 v).t (tcH s y ((u:Int)/l) 1 (T1 u).t)),cpj⟩),(upB f1 v true),true⟩<Fl.rmu (opsN s y l) 5000 n ⟨tabs T1,f1,true⟩:=hmn;cases cb <;> simp only [cond_true,cond_false] at hmu ⊢ <;> omega),(fun h=>by cases h),(HP.exch (A:=[Go.Proofs.YtmjnakhpekbenaaGreat.Fw.Ent.cel b3 #[vI s,vI y,vI l,vI m] 23]) hInv hF9)⟩)
    ·
     refine WC.no (congrArg (fun b=>some (Value.bool b)) hfv) ?_;refine WC.skip (WQ.then (hK40 _ _ _ (WC.seq fun K55 hK55=>WC.region (WL.z (vS gr (n+1) (n+1)) 71 (WL.z (vI (v:Int)) 72 (WL.y (vP gr v) 73 (x_ix (b:=gr) (off:=0) v v Tryz.underlying26 sz4) (WL.y (.bool false) 74 (x_load rfl rfl Tryz.underlying4 rfl (HP.cell hH39 1 rfl (brow_get (by omega) hfv))) (WL.z (.bool true) 75 (WL.z (.bool true) 76 (WL.p 77 ?_))))))))));refine WL.p 78 (WL.p 79 (WL.p 80 (WL.p 81 (WL.p 82 (WL.p 83 (WL.z (.bool true) 84 (WL.k hK55 (WC.sb [(1,.slice p n cap),(2,.bool true),(3,vP b3 0),(7,vS gt (n+1) (n+1)),(8,vS gr (n+1) (n+1)),(9,.slice (some ⟨gw,ow,none⟩) ((wLs c n n).length) cpw),(10,.bool cb),(11,vI (i:Int)),(12,vI (u:Int)),(13,vI (v:Int)),(14,.slice pvt ((tcH s y ((u:Int)/l) 1 (T1 u).t).length) cpt),(31,.bool true),(48,.bool (!(f1 u))),(63,.bool (f1 v)),(84,.bool true)] ?_))))))));refine WC.yes rfl ?_;refine WC.seq fun K56 hK56=>WC.region (WL.z (.bool true) 10 (WL.k hK56 (WC.seq fun K57 hK57=>WC.region (WL.z (vS gr (n+1) (n+1)) 85 (WL.z (vI (v:Int)) 86 (WL.y (vP gr v) 87 (x_ix (b:=gr) (off:=0) v v Tryz.underlying26 sz4) ?_))))));refine WL.store (c':=brow (n+1) (upB f1 v true)) (H2:=_) 1 hH39 rfl rfl rfl rfl rfl rfl sz4 rfl (by rw [size_brow];omega) (brow_set (n+1) v f1 true) rfl ?_;intro w58 hBw58;have hH59:HP (Out [.cel gt (aR (n+1) T1) 63,.cel gr (brow (n+1) f1) 4]) w27 w58 [.cel gt (aR (n+1) T1) 63,.cel gr (brow (n+1) (upB f1 v true)) 4,rowT pvt (tcH s y ((u:Int)/l) 1 (T1 u).t).length cpt (tcH s y ((u:Int)/l) 1 (T1 u).t)]:=hBw58;refine WL.k hK57 (WC.region (WL.z (vS gt (n+1) (n+1)) 88 (WL.z (vI (v:Int)) 89 (WL.z (.slice pvt ((tcH s y ((u:Int)/l) 1 (T1 u).t).length) cpt) 90 (WL.y (vP gt v) 91 (x_ix (b:=gt) (off:=0) v v Tryz.underlying77 sz63) ?_)))));refine WL.store (c':=aR (n+1) (upA T1 v ⟨pvt,(tcH s y ((u:Int)/l) 1 (T1 u).t),cpt⟩)) (H2:=_) 0 hH59 rfl rfl rfl rfl rfl rfl sz63 rfl (by rw [aR_size];omega) (aR_set (n+1) v T1 ⟨pvt,(tcH s y ((u:Int)/l) 1 (T1 u).t),cpt⟩) rfl ?_
     intro w60 hBw60;have hH61:HP (Out [.cel gt (aR (n+1) T1) 63,.cel gr (brow (n+1) f1) 4]) w27 w60 [.cel gt (aR (n+1) (upA T1 v ⟨pvt,(tcH s y ((u:Int)/l) 1 (T1 u).t),cpt⟩)) 63,.cel gr (brow (n+1) (upB f1 v true)) 4,rowT pvt (tcH s y ((u:Int)/l) 1 (T1 u).t).length cpt (tcH s y ((u:Int)/l) 1 (T1 u).t)]:=hBw60;refine WL.nil (WQ.inNormal (WQ.then (hK32 _ _ _ (WC.sb [(1,.slice p n cap),(2,.bool true),(3,vP b3 0),(7,vS gt (n+1) (n+1)),(8,vS gr (n+1) (n+1)),(9,.slice (some ⟨gw,ow,none⟩) ((wLs c n n).length) cpw),(10,.bool true),(11,vI (i:Int)),(12,vI (u:Int)),(13,vI (v:Int)),(14,.slice pvt ((tcH s y ((u:Int)/l) 1 (T1 u).t).length) cpt),(31,.bool true),(48,.bool (!(f1 u))),(63,.bool (f1 v)),(84,.bool true)] (WC.region (WL.z (vI (i:Int)) 32 (WL.y (vI ((i+1:Nat):Int)) 33 (x_ad (((i+1:Nat):Int))) (WL.z (vI ((i+1:Nat):Int)) 11 (WL.nil ?_)))))))));have hIWn:=keepI hIW1 hOi hH61;have hTn:∀ i9,TbOk s y l m _ ((upA T1 v ⟨pvt,(tcH s y ((u:Int)/l) 1 (T1 u).t),cpt⟩) i9):=fun i9=>by
           unfold upA;split
           · exact⟨InT.own (HP.get hH61 2 rfl),hVt⟩
           · exact keepT (hT1 i9) hOi hH61
     have hF9:HP (Out [.cel gt (aR (n+1) T1) 63,.cel gr (brow (n+1) f1) 4]) w27 _ [.cel gt (aR (n+1) (upA T1 v ⟨pvt,(tcH s y ((u:Int)/l) 1 (T1 u).t),cpt⟩)) 63,.cel gr (brow (n+1) (upB f1 v true)) 4]:=(HP.drop hH61 2);obtain⟨hRn,hmn⟩:=Fl.step_chg G (by omega) (VT.nil hg0) (fun a ha=>muN_bd ha) hR1 hkw hmw hfu (X:=(tcH s y ((u:Int)/l) 1 (T1 u).t)) (by show (tcH s y ((u:Int)/l) 1 (T1 u).t)=if f1 v=true then _ else _;rw [if_neg (by rw [hfv];exact Bool.false_ne_true)];rfl) (fun q=>absurd (show f1 v=true from q.1) (by rw [hfv];exact Bool.false_ne_true));rw [← upB_up] at hRn hmn;have hte:tabs (upA T1 v ⟨pvt,(tcH s y ((u:Int)/l) 1 (T1 u).t),cpt⟩)=Fl.up (tabs T1) v (tcH s y ((u:Int)/l) 1 (T1 u).t):=tabs_up T1 v ⟨pvt,(tcH s y ((u:Int)/l) 1 (T1 u).t),cpt⟩;simp only [] at hRn hmn;rw [← hte] at hRn hmn;refine WQ.sb [(1,.slice p n cap),(2,.bool true),(3,vP b3 0),(7,vS gt (n+1) (n+1)),(8,vS gr (n+1) (n+1)),(9,.slice (some ⟨gw,ow,none⟩) ((wLs c n n).length) cpw),(10,.bool true),(11,vI ((i+1:Nat):Int))] ?_;refine WQ.then (hK26 _ _ _ (by omega) ⟨i+1,(upA T1 v ⟨pvt,(tcH s y ((u:Int)/l) 1 (T1 u).t),cpt⟩),(upB f1 v true),true,rfl,rfl,by omega,hTn,hIWn,hRn,(by have hmn9:Fl.rmu (opsN s y l) 5000 n ⟨tabs (upA T1 v ⟨pvt,(tcH s y ((u:Int)/l) 1 (T1 u).t),cpt⟩),(upB f1 v true),true⟩<Fl.rmu (opsN s y l) 5000 n ⟨tabs T1,f1,true⟩:=hmn;cases cb <;> simp only [cond_true,cond_false] at hmu ⊢ <;> omega),(fun h=>by cases h),(HP.exch (A:=[Go.Proofs.YtmjnakhpekbenaaGreat.Fw.Ent.cel b3 #[vI s,vI y,vI l,vI m] 23]) hInv hF9)⟩)
   ·
    refine WC.yes (congrArg (fun b=>some (Value.bool (!b))) hfu) ?_;refine WC.exit (WQ.thenExit (WQ.inExit (WQ.then (hK32 _ _ _ (WC.region (WL.z (vI (i:Int)) 32 (WL.y (vI ((i+1:Nat):Int)) 33 (x_ad (((i+1:Nat):Int))) (WL.z (vI ((i+1:Nat):Int)) 11 (WL.nil ?_)))))))));have hF9:HP (Out [.cel gt (aR (n+1) T1) 63,.cel gr (brow (n+1) f1) 4]) w27 _ [.cel gt (aR (n+1) T1) 63,.cel gr (brow (n+1) f1) 4]:=hH29;refine WQ.sb [(1,.slice p n cap),(2,.bool true),(3,vP b3 0),(7,vS gt (n+1) (n+1)),(8,vS gr (n+1) (n+1)),(9,.slice (some ⟨gw,ow,none⟩) ((wLs c n n).length) cpw),(10,.bool cb),(11,vI ((i+1:Nat):Int))] ?_;refine WQ.then (hK26 _ _ _ (by omega) ⟨i+1,T1,f1,cb,rfl,rfl,by omega,(fun i9=>keepT (hT1 i9) hOi hF9),keepI hIW1 hOi hF9,hR1,hmu,stab_succ hpw hst (fun q=>absurd (show f1 u=true from q) (by rw [hfu];exact Bool.false_ne_true)),(HP.exch (A:=[Go.Proofs.YtmjnakhpekbenaaGreat.Fw.Ent.cel b3 #[vI s,vI y,vI l,vI m] 23]) hInv hF9)⟩)
  ·
   refine WL.y (.bool false) 31 (x_lss rfl rfl rfl (dF (hlt))) (WL.k hK31 ?_);refine WC.no rfl ?_;refine WC.exit (WQ.thenExit (WQ.thenExit (WQ.inExit (WQ.inNormal (WQ.sb [(1,.slice p n cap),(2,.bool true),(3,vP b3 0),(7,vS gt (n+1) (n+1)),(8,vS gr (n+1) (n+1)),(9,.slice pvw ((wLs c n n).length) cpw),(10,.bool cb)] ?_)))));refine WQ.then (hK19 _ _ _ (by cases cb <;> simp only [cond_true,cond_false] at hmu ⊢ <;> omega) ⟨T1,f1,cb,rfl,rfl,hT1,hIW1,hR1,(fun h=>ws_all (P:=Stab (latN s y l m hg0) T1 f1) (fun j hj p hq=>hst h j (by omega) p hq)),hInv⟩)
 ·
  refine WC.no (congrArg (fun b=>some (Value.bool b)) hch) ?_;refine WC.exit (WQ.thenExit (WQ.thenExit (WQ.inExit (WQ.then (hK16 _ _ _ (WC.seq fun K62 hK62=>WC.region (WL.z (vS gt (n+1) (n+1)) 92 (WL.z (vS gt (n+1) (n+1)) 6 (WL.nil (WQ.then ?_))))))))));refine hK62 _ _ _ (WC.ret ?_);refine WQ.ret1 6 rfl rfl ?_;have hfin:=Fl.stable_eq G hR0 (hst0 hch);exact⟨gt,T0,rfl,HP.drop (HP.drop hH21 2) 0,hT0,fun v hv=>by have:=(hfin v (by omega)).2;rw [Fl.V_lt hv] at this;exact this⟩
end Ca
end Go.Proofs.YtmjnakhpekbenaaGreat
namespace Go.Proofs.YtmjnakhpekbenaaGreat
set_option maxRecDepth 20000
set_option maxHeartbeats 4000000
open Go.RowKit Fw
namespace Ca
theorem is_of {s y l m:Int} {t:List T2} (h:VT s y l m t) (x:Int):decide (0≤(ageT t x).getD (-1))=(ageT t x).isSome:=by
  cases e:ageT t x with
  | none=>rfl
  | some a =>
    obtain⟨i,hi,ha⟩:=age_some e;have:=(h.ag i hi).1;show decide (0≤a)=true;exact decide_eq_true (by omega)
theorem mkF_at {ah:Nat→List T2} {l:Int} {i n:Nat} (hi:n≤i) {f:Nat→Bool} {X:Nat→List T2} (h:∀ v,v<n→ah v=X v) (hf:∀ j,f j=(ageT (X j) ((j:Int)/l)).isSome):∀ j,j<n→mkF ah l i j=f j:=fun j hj=>by
  unfold mkF;rw [decide_eq_true (show j<i by omega),Bool.true_and,h j hj,hf j]
theorem marked0_any (s y l m:Int) (p:Option Addr) (n cap:Nat) (c A B:Nat→Int) (w:World) (hIn:Ec.InC w p n c A B) (hg0:vG s y l m=true) (hc:Ec.chk c A B false n=0) :
  Calls Tryz.prog 22 #[.agg #[vI s,vI y,vI l,vI m],.slice p n cap,.bool false] w fun e w'=>∃ go,e=.returned (vS go n n)∧HP Tr w w' [.cel go (brow n (mk0 s y l c n (trC c n))) 4]:=by
 have hn9:=(Ec.chk_ok hc).1;have hg:=vG_iff.1 hg0;refine calls_of Tryz.func22 rfl (m:=37) rfl [(0,.agg #[vI s,vI y,vI l,vI m]),(1,.slice p n cap),(2,.bool false)] (Fr_enter [.agg #[vI s,vI y,vI l,vI m],.slice p n cap,.bool false] 37 (Nat.le_of_ble_eq_true rfl)) ?_;have hH1:HP Tr w w []:=HP.refl w;refine WC.seq fun K2 hK2=>WC.region ?_;refine WL.alloc (c:=#[vI s,vI y,vI l,vI m]) (T:=23) hH1 3 rfl (by decide) rfl rfl (fun b3=>vP b3 0) (by kernel_rfl) (fun b3 w3 hw3=>?_);have hH4:HP Tr w w3 [.cel b3 #[vI s,vI y,vI l,vI m] 23]:=hw3.2;have nb3:=hw3.1;clear hw3;refine WL.z (.slice none 0 0) 6 (WL.k hK2 (WC.seq fun K5 hK5=>WC.region (WL.y (.agg #[vI s,vI y,vI l,vI m]) 10 (x_loadS (cs:=[vI s,vI y,vI l,vI m]) rfl rfl Tryz.underlying23 rfl sz23 (HP.range hH4 0 rfl rfl)) (WL.z (.slice p n cap) 11 (WL.z (.bool false) 12 ?_)))));refine WL.c 40 #[.agg #[vI s,vI y,vI l,vI m],.slice p n cap,.bool false] 13 ?_;refine(rAhead0_any s y l m p n cap c A B _ (hIn.below (HP.below hH4)) hg0 hc).mono ?_;rintro e w6 ⟨gt,T9,rfl,hb7,hT9,hTe⟩;refine⟨_,rfl,?_⟩;have hH8:HP Tr w _ [.cel b3 #[vI s,vI y,vI l,vI m] 23,.cel gt (aR (n+1) T9) 63]:=HP.trans hH4 hb7;have hT8:=hT9;refine WL.z (vS gt (n+1) (n+1)) 7 (WL.k hK5 (WC.seq fun K9 hK9=>WC.region (WL.z (.slice p n cap) 14 (WL.z (vI (n:Int)) 15 ?_))));have hIv0:=hH8;refine WL.alloc (c:=brow n (fun _=>false)) (T:=4) (HP.refl (S:=Tr) w6) 16 rfl (by decide) rfl rfl (fun go=>vS go n n) (x_makeR rfl rfl rfl (makeB n (by omega) _)) (fun go w10 hw9=>?_);have hal9:=HP.below hw9.2;have hH10:HP Tr w w10 [.cel b3 #[vI s,vI y,vI l,vI m] 23,.cel gt (aR (n+1) T9) 63,.cel go (brow n (fun _=>false)) 4]:=HP.trans hIv0 hw9.2;refine WL.z (vS go n n) 8 (WL.k hK9 (WC.sb [(0,.agg #[vI s,vI y,vI l,vI m]),(1,.slice p n cap),(2,.bool false),(3,vP b3 0),(6,.slice none 0 0),(7,vS gt (n+1) (n+1)),(8,vS go n n)] (WC.seq fun K11 hK11=>WC.seq fun K12 hK12=>WC.region (WL.z (vI 0) 9 (WL.k hK12 ?_)))))
 refine WC.block ?_;refine WC.loop (fun kk0 ll0 ww0=>∃ (i:Nat),ll0=[(1,.slice p n cap),(2,.bool false),(3,vP b3 0),(7,vS gt (n+1) (n+1)),(8,vS go n n),(9,vI (i:Int))]∧kk0=n-i∧(i≤n)∧(∀ i9,TbOk s y l m ww0 (T9 i9))∧HP Tr w ww0 [.cel b3 #[vI s,vI y,vI l,vI m] 23,.cel gt (aR (n+1) T9) 63,.cel go (brow n (mkF (tabs T9) l i)) 4]) (n) [(1,.slice p n cap),(2,.bool false),(3,vP b3 0),(7,vS gt (n+1) (n+1)),(8,vS go n n),(9,vI 0)] ⟨rfl,rfl,rfl,rfl,rfl,rfl,trivial⟩ ⟨0,rfl,rfl,Nat.zero_le _,(fun i9=>(hT8 i9).below hal9),(by rw [show brow n (mkF (tabs T9) l 0)=brow n (fun _=>false) from brow_congr (fun j _=>mkF_0 (tabs T9) l j)];exact hH10)⟩ ?_;rintro kk l w14 ⟨i,rfl,hkk,hi,hTn,hH15⟩ K13 hK13;have hInv:=hH15;have hB9:=HP.ownB (A:=[.cel b3 #[vI s,vI y,vI l,vI m] 23,.cel gt (aR (n+1) T9) 63]) hInv;have hH16:=HP.startB hB9;refine WC.seq fun K17 hK17=>WC.seq fun K18 hK18=>WC.region (WL.z (vI (i:Int)) 17 (WL.z (.slice p n cap) 18 (WL.z (vI (n:Int)) 19 ?_)));by_cases hlt:(i:Int)<(n:Int)
 ·
  refine WL.y (.bool true) 20 (x_lss rfl rfl rfl (dT (hlt))) (WL.k hK18 ?_);refine WC.yes rfl ?_;refine WC.skip (WQ.then (hK17 _ _ _ (WC.seq fun K19 hK19=>WC.block ?_)));have hx9:=line_of hg.2.2.1 (show i≤999 by omega);refine WC.confG (γ:=Unit) [(20,.bool true),(19,vI (n:Int)),(18,.slice p n cap),(17,vI (i:Int)),(1,.slice p n cap),(2,.bool false),(3,vP b3 0),(7,vS gt (n+1) (n+1)),(8,vS go n n),(9,vI (i:Int))] (fun gy=>[vS go n n,vI (i:Int),vS gt (n+1) (n+1),vI (i:Int),vP gt i,.slice ((T9 i).q) ((T9 i).t.length) ((T9 i).c),vI (i:Int),vP b3 2,vI l,vI ((i:Int)/l),vI ((ageT (T9 i).t ((i:Int)/l)).getD (-1)),.bool ((ageT (T9 i).t ((i:Int)/l)).isSome),vP go i,undef]) (fun gy D wz=>HP (Out [.cel go (brow n (mkF (tabs T9) l i)) 4]) w14 wz [(bif D 13 then Ent.cel go (brow n (upB (mkF (tabs T9) l i) i ((ageT (T9 i).t ((i:Int)/l)).isSome))) 4 else Ent.cel go (brow n (mkF (tabs T9) l i)) 4)]) () (by kernel_rfl) ⟨rfl,rfl,rfl,rfl,rfl,rfl,rfl,rfl,rfl,rfl,trivial⟩ (by kernel_rfl) (by kernel_rfl) (by kernel_rfl) (fun _=>rfl) (by kernel_rfl) (HP.drew hH16) ?_ ?_
  ·
   refine AllOk.cons ?o0 (AllOk.cons ?o1 (AllOk.cons ?o2 (AllOk.cons ?o3 (AllOk.cons ?o4 (AllOk.cons ?o5 (AllOk.cons ?o6 (AllOk.cons ?o7 (AllOk.cons ?o8 (AllOk.cons ?o9 (AllOk.cons ?o10 (AllOk.cons ?o11 (AllOk.cons ?o12 (AllOk.cons ?o13 (AllOk.nil _))))))))))))))
   case o0 =>
    intro gy D wz hDi hdep hclo hW;exact cfv gy wz (by kernel_rfl) hW
   case o1 =>
    intro gy D wz hDi hdep hclo hW;exact cfv gy wz (by kernel_rfl) hW
   case o2 =>
    intro gy D wz hDi hdep hclo hW;exact cfv gy wz (by kernel_rfl) hW
   case o3 =>
    intro gy D wz hDi hdep hclo hW;exact cfv gy wz (by kernel_rfl) hW
   case o4 =>
    intro gy D wz hDi hdep hclo hW;exact cfv gy wz (x_ix (b:=gt) (off:=0) i i Tryz.underlying77 sz63) hW
   case o5 =>
    intro gy D wz hDi hdep hclo hW;exact cfv gy wz (x_load rfl rfl Tryz.underlying63 rfl (HP.old hW (out1 (ne_of hInv 1 2 (by decide) rfl rfl rfl rfl)) (HP.cell hInv 1 rfl (aR_get (by omega))))) hW
   case o6 =>
    intro gy D wz hDi hdep hclo hW;exact cfv gy wz (by kernel_rfl) hW
   case o7 =>
    intro gy D wz hDi hdep hclo hW;exact cfv gy wz (by kernel_rfl) hW
   case o8 =>
    intro gy D wz hDi hdep hclo hW;exact cfv gy wz (x_load rfl rfl Tryz.underlying3 rfl (HP.old hW (out1 (ne_of hInv 0 2 (by decide) rfl rfl rfl rfl)) (HP.cell (off:=2) hInv 0 rfl rfl))) hW
   case o9 =>
    intro gy D wz hDi hdep hclo hW;exact cfv gy wz (x_quo rfl rfl rfl (by omega) (tdiv_pos (by omega) (by omega)) (by have:=hx9;omega) (by have:=hx9;omega)) hW
   case o10 =>
    intro gy D wz hDi hdep hclo hW;have hW2:=hW;exact .inl ⟨rfl,rfl,.inr (.inr ⟨41,#[.slice ((T9 i).q) ((T9 i).t.length) ((T9 i).c),vI ((i:Int)/l)],by kernel_rfl,(rAge_any (T9 i).q (T9 i).t (T9 i).c _ (keepT (hTn i) (fun b o x hc=>out_bool hB9 hc) hW).inn ((i:Int)/l) (by have:=(hTn i).ok.len;omega)).mono fun e w2 h=>⟨gy,fun _ _=>rfl,h.1,HP.call hW h.2⟩⟩)⟩
   case o11 =>
    intro gy D wz hDi hdep hclo hW;exact cfv gy wz (x_geq rfl rfl rfl (is_of (hTn i).ok _)) hW
   case o12 =>
    intro gy D wz hDi hdep hclo hW;exact cfv gy wz (x_ix (i) (i) Tryz.underlying26 sz4) hW
   case o13 =>
    intro gy D wz hDi hdep hclo hW;have hW9:=hW;simp only [hDi,cond_false] at hW9;have h4:=HP.set (off:=i) (v:=.bool ((ageT (T9 i).t ((i:Int)/l)).isSome)) hW9 0 rfl;rw [brow_set] at h4;exact .inl ⟨rfl,rfl,.inr (.inl ⟨_,x_store rfl rfl rfl sz4 rfl (HP.cell hW9 0 rfl (brow_get (by omega) rfl)) (HP.free hW9 0 rfl),rfl,h4⟩)⟩
  rintro gy D w20 hall hH21;simp only [hall 13 (by kernel_rfl),cond_true,List.append_nil,List.nil_append,List.cons_append] at hH21;clear hall;refine WQ.sb [(1,.slice p n cap),(2,.bool false),(3,vP b3 0),(7,vS gt (n+1) (n+1)),(8,vS go n n),(9,vI (i:Int)),(20,.bool true)] (WQ.inNormal (WQ.then (hK19 _ _ _ (WC.region (WL.z (vI (i:Int)) 21 (WL.y (vI ((i+1:Nat):Int)) 22 (x_ad (((i+1:Nat):Int))) (WL.z (vI ((i+1:Nat):Int)) 9 (WL.nil ?_))))))));have hnb:brow n (upB (mkF (tabs T9) l i) i (ageT (T9 i).t ((i:Int)/l)).isSome)=brow n (mkF (tabs T9) l (i+1)):=brow_congr (fun j hj=>mkF_step (tabs T9) l i j);have hF9:=hH21;rw [hnb] at hF9;refine WQ.sb [(1,.slice p n cap),(2,.bool false),(3,vP b3 0),(7,vS gt (n+1) (n+1)),(8,vS go n n),(9,vI ((i+1:Nat):Int))] ?_;refine WQ.then (hK13 _ _ _ (by omega) ⟨i+1,rfl,rfl,by omega,(fun i9=>keepT (hTn i9) (fun b o x hc=>out_bool hB9 hc) hF9),(HP.exch (A:=[.cel b3 #[vI s,vI y,vI l,vI m] 23,.cel gt (aR (n+1) T9) 63]) hInv hF9)⟩)
 ·
  refine WL.y (.bool false) 20 (x_lss rfl rfl rfl (dF (hlt))) (WL.k hK18 ?_);refine WC.no rfl ?_;refine WC.exit (WQ.thenExit (WQ.thenExit (WQ.inExit (WQ.then (hK11 _ _ _ (WC.seq fun K22 hK22=>WC.region (WL.z (vS go n n) 36 (WL.z (vS go n n) 6 (WL.nil (WQ.then ?_))))))))));refine hK22 _ _ _ (WC.ret ?_);refine WQ.ret1 6 rfl rfl ?_;rw [brow_congr (mkF_at (by omega) hTe (f:=mk0 s y l c n (trC c n)) (fun _=>rfl))] at hInv;exact⟨go,rfl,HP.drop (HP.drop hInv 1) 0⟩
theorem marked1_any (s y l m:Int) (p:Option Addr) (n cap:Nat) (c A B:Nat→Int) (w:World) (hIn:Ec.InC w p n c A B) (hg0:vG s y l m=true) (hc:Ec.chk c A B false n=0) :
  Calls Tryz.prog 22 #[.agg #[vI s,vI y,vI l,vI m],.slice p n cap,.bool true] w fun e w'=>∃ go,e=.returned (vS go n n)∧HP Tr w w' [.cel go (brow n (mk1 s y l c n (trC c n))) 4]:=by
 have hn9:=(Ec.chk_ok hc).1;have hg:=vG_iff.1 hg0;refine calls_of Tryz.func22 rfl (m:=37) rfl [(0,.agg #[vI s,vI y,vI l,vI m]),(1,.slice p n cap),(2,.bool true)] (Fr_enter [.agg #[vI s,vI y,vI l,vI m],.slice p n cap,.bool true] 37 (Nat.le_of_ble_eq_true rfl)) ?_;have hH1:HP Tr w w []:=HP.refl w;refine WC.seq fun K2 hK2=>WC.region ?_;refine WL.alloc (c:=#[vI s,vI y,vI l,vI m]) (T:=23) hH1 3 rfl (by decide) rfl rfl (fun b3=>vP b3 0) (by kernel_rfl) (fun b3 w3 hw3=>?_);have hH4:HP Tr w w3 [.cel b3 #[vI s,vI y,vI l,vI m] 23]:=hw3.2;have nb3:=hw3.1;clear hw3;refine WL.z (.slice none 0 0) 6 (WL.k hK2 (WC.seq fun K5 hK5=>WC.region (WL.y (.agg #[vI s,vI y,vI l,vI m]) 10 (x_loadS (cs:=[vI s,vI y,vI l,vI m]) rfl rfl Tryz.underlying23 rfl sz23 (HP.range hH4 0 rfl rfl)) (WL.z (.slice p n cap) 11 (WL.z (.bool true) 12 ?_)))));refine WL.c 40 #[.agg #[vI s,vI y,vI l,vI m],.slice p n cap,.bool true] 13 ?_;refine(rAhead1_any s y l m p n cap c A B _ (hIn.below (HP.below hH4)) hg0 hc).mono ?_;rintro e w6 ⟨gt,T9,rfl,hb7,hT9,hTe⟩;refine⟨_,rfl,?_⟩;have hH8:HP Tr w _ [.cel b3 #[vI s,vI y,vI l,vI m] 23,.cel gt (aR (n+1) T9) 63]:=HP.trans hH4 hb7;have hT8:=hT9;refine WL.z (vS gt (n+1) (n+1)) 7 (WL.k hK5 (WC.seq fun K9 hK9=>WC.region (WL.z (.slice p n cap) 14 (WL.z (vI (n:Int)) 15 ?_))));have hIv0:=hH8;refine WL.alloc (c:=brow n (fun _=>false)) (T:=4) (HP.refl (S:=Tr) w6) 16 rfl (by decide) rfl rfl (fun go=>vS go n n) (x_makeR rfl rfl rfl (makeB n (by omega) _)) (fun go w10 hw9=>?_);have hal9:=HP.below hw9.2;have hH10:HP Tr w w10 [.cel b3 #[vI s,vI y,vI l,vI m] 23,.cel gt (aR (n+1) T9) 63,.cel go (brow n (fun _=>false)) 4]:=HP.trans hIv0 hw9.2;refine WL.z (vS go n n) 8 (WL.k hK9 (WC.sb [(0,.agg #[vI s,vI y,vI l,vI m]),(1,.slice p n cap),(2,.bool true),(3,vP b3 0),(6,.slice none 0 0),(7,vS gt (n+1) (n+1)),(8,vS go n n)] (WC.seq fun K11 hK11=>WC.seq fun K12 hK12=>WC.region (WL.z (vI 0) 9 (WL.k hK12 ?_)))))
 refine WC.block ?_;refine WC.loop (fun kk0 ll0 ww0=>∃ (i:Nat),ll0=[(1,.slice p n cap),(2,.bool true),(3,vP b3 0),(7,vS gt (n+1) (n+1)),(8,vS go n n),(9,vI (i:Int))]∧kk0=n-i∧(i≤n)∧(∀ i9,TbOk s y l m ww0 (T9 i9))∧HP Tr w ww0 [.cel b3 #[vI s,vI y,vI l,vI m] 23,.cel gt (aR (n+1) T9) 63,.cel go (brow n (mkF (tabs T9) l i)) 4]) (n) [(1,.slice p n cap),(2,.bool true),(3,vP b3 0),(7,vS gt (n+1) (n+1)),(8,vS go n n),(9,vI 0)] ⟨rfl,rfl,rfl,rfl,rfl,rfl,trivial⟩ ⟨0,rfl,rfl,Nat.zero_le _,(fun i9=>(hT8 i9).below hal9),(by rw [show brow n (mkF (tabs T9) l 0)=brow n (fun _=>false) from brow_congr (fun j _=>mkF_0 (tabs T9) l j)];exact hH10)⟩ ?_;rintro kk l w14 ⟨i,rfl,hkk,hi,hTn,hH15⟩ K13 hK13;have hInv:=hH15;have hB9:=HP.ownB (A:=[.cel b3 #[vI s,vI y,vI l,vI m] 23,.cel gt (aR (n+1) T9) 63]) hInv;have hH16:=HP.startB hB9;refine WC.seq fun K17 hK17=>WC.seq fun K18 hK18=>WC.region (WL.z (vI (i:Int)) 17 (WL.z (.slice p n cap) 18 (WL.z (vI (n:Int)) 19 ?_)));by_cases hlt:(i:Int)<(n:Int)
 ·
  refine WL.y (.bool true) 20 (x_lss rfl rfl rfl (dT (hlt))) (WL.k hK18 ?_);refine WC.yes rfl ?_;refine WC.skip (WQ.then (hK17 _ _ _ (WC.seq fun K19 hK19=>WC.block ?_)));have hx9:=line_of hg.2.2.1 (show i≤999 by omega);refine WC.confG (γ:=Unit) [(20,.bool true),(19,vI (n:Int)),(18,.slice p n cap),(17,vI (i:Int)),(1,.slice p n cap),(2,.bool true),(3,vP b3 0),(7,vS gt (n+1) (n+1)),(8,vS go n n),(9,vI (i:Int))] (fun gy=>[vS go n n,vI (i:Int),vS gt (n+1) (n+1),vI (i:Int),vP gt i,.slice ((T9 i).q) ((T9 i).t.length) ((T9 i).c),vI (i:Int),vP b3 2,vI l,vI ((i:Int)/l),vI ((ageT (T9 i).t ((i:Int)/l)).getD (-1)),.bool ((ageT (T9 i).t ((i:Int)/l)).isSome),vP go i,undef]) (fun gy D wz=>HP (Out [.cel go (brow n (mkF (tabs T9) l i)) 4]) w14 wz [(bif D 13 then Ent.cel go (brow n (upB (mkF (tabs T9) l i) i ((ageT (T9 i).t ((i:Int)/l)).isSome))) 4 else Ent.cel go (brow n (mkF (tabs T9) l i)) 4)]) () (by kernel_rfl) ⟨rfl,rfl,rfl,rfl,rfl,rfl,rfl,rfl,rfl,rfl,trivial⟩ (by kernel_rfl) (by kernel_rfl) (by kernel_rfl) (fun _=>rfl) (by kernel_rfl) (HP.drew hH16) ?_ ?_
  ·
   refine AllOk.cons ?o0 (AllOk.cons ?o1 (AllOk.cons ?o2 (AllOk.cons ?o3 (AllOk.cons ?o4 (AllOk.cons ?o5 (AllOk.cons ?o6 (AllOk.cons ?o7 (AllOk.cons ?o8 (AllOk.cons ?o9 (AllOk.cons ?o10 (AllOk.cons ?o11 (AllOk.cons ?o12 (AllOk.cons ?o13 (AllOk.nil _))))))))))))))
   case o0 =>
    intro gy D wz hDi hdep hclo hW;exact cfv gy wz (by kernel_rfl) hW
   case o1 =>
    intro gy D wz hDi hdep hclo hW;exact cfv gy wz (by kernel_rfl) hW
   case o2 =>
    intro gy D wz hDi hdep hclo hW;exact cfv gy wz (by kernel_rfl) hW
   case o3 =>
    intro gy D wz hDi hdep hclo hW;exact cfv gy wz (by kernel_rfl) hW
   case o4 =>
    intro gy D wz hDi hdep hclo hW;exact cfv gy wz (x_ix (b:=gt) (off:=0) i i Tryz.underlying77 sz63) hW
   case o5 =>
    intro gy D wz hDi hdep hclo hW;exact cfv gy wz (x_load rfl rfl Tryz.underlying63 rfl (HP.old hW (out1 (ne_of hInv 1 2 (by decide) rfl rfl rfl rfl)) (HP.cell hInv 1 rfl (aR_get (by omega))))) hW
   case o6 =>
    intro gy D wz hDi hdep hclo hW;exact cfv gy wz (by kernel_rfl) hW
   case o7 =>
    intro gy D wz hDi hdep hclo hW;exact cfv gy wz (by kernel_rfl) hW
   case o8 =>
    intro gy D wz hDi hdep hclo hW;exact cfv gy wz (x_load rfl rfl Tryz.underlying3 rfl (HP.old hW (out1 (ne_of hInv 0 2 (by decide) rfl rfl rfl rfl)) (HP.cell (off:=2) hInv 0 rfl rfl))) hW
   case o9 =>
    intro gy D wz hDi hdep hclo hW;exact cfv gy wz (x_quo rfl rfl rfl (by omega) (tdiv_pos (by omega) (by omega)) (by have:=hx9;omega) (by have:=hx9;omega)) hW
   case o10 =>
    intro gy D wz hDi hdep hclo hW;have hW2:=hW;exact .inl ⟨rfl,rfl,.inr (.inr ⟨41,#[.slice ((T9 i).q) ((T9 i).t.length) ((T9 i).c),vI ((i:Int)/l)],by kernel_rfl,(rAge_any (T9 i).q (T9 i).t (T9 i).c _ (keepT (hTn i) (fun b o x hc=>out_bool hB9 hc) hW).inn ((i:Int)/l) (by have:=(hTn i).ok.len;omega)).mono fun e w2 h=>⟨gy,fun _ _=>rfl,h.1,HP.call hW h.2⟩⟩)⟩
   case o11 =>
    intro gy D wz hDi hdep hclo hW;exact cfv gy wz (x_geq rfl rfl rfl (is_of (hTn i).ok _)) hW
   case o12 =>
    intro gy D wz hDi hdep hclo hW;exact cfv gy wz (x_ix (i) (i) Tryz.underlying26 sz4) hW
   case o13 =>
    intro gy D wz hDi hdep hclo hW;have hW9:=hW;simp only [hDi,cond_false] at hW9;have h4:=HP.set (off:=i) (v:=.bool ((ageT (T9 i).t ((i:Int)/l)).isSome)) hW9 0 rfl;rw [brow_set] at h4;exact .inl ⟨rfl,rfl,.inr (.inl ⟨_,x_store rfl rfl rfl sz4 rfl (HP.cell hW9 0 rfl (brow_get (by omega) rfl)) (HP.free hW9 0 rfl),rfl,h4⟩)⟩
  rintro gy D w20 hall hH21;simp only [hall 13 (by kernel_rfl),cond_true,List.append_nil,List.nil_append,List.cons_append] at hH21;clear hall;refine WQ.sb [(1,.slice p n cap),(2,.bool true),(3,vP b3 0),(7,vS gt (n+1) (n+1)),(8,vS go n n),(9,vI (i:Int)),(20,.bool true)] (WQ.inNormal (WQ.then (hK19 _ _ _ (WC.region (WL.z (vI (i:Int)) 21 (WL.y (vI ((i+1:Nat):Int)) 22 (x_ad (((i+1:Nat):Int))) (WL.z (vI ((i+1:Nat):Int)) 9 (WL.nil ?_))))))));have hnb:brow n (upB (mkF (tabs T9) l i) i (ageT (T9 i).t ((i:Int)/l)).isSome)=brow n (mkF (tabs T9) l (i+1)):=brow_congr (fun j hj=>mkF_step (tabs T9) l i j);have hF9:=hH21;rw [hnb] at hF9;refine WQ.sb [(1,.slice p n cap),(2,.bool true),(3,vP b3 0),(7,vS gt (n+1) (n+1)),(8,vS go n n),(9,vI ((i+1:Nat):Int))] ?_;refine WQ.then (hK13 _ _ _ (by omega) ⟨i+1,rfl,rfl,by omega,(fun i9=>keepT (hTn i9) (fun b o x hc=>out_bool hB9 hc) hF9),(HP.exch (A:=[.cel b3 #[vI s,vI y,vI l,vI m] 23,.cel gt (aR (n+1) T9) 63]) hInv hF9)⟩)
 ·
  refine WL.y (.bool false) 20 (x_lss rfl rfl rfl (dF (hlt))) (WL.k hK18 ?_);refine WC.no rfl ?_;refine WC.exit (WQ.thenExit (WQ.thenExit (WQ.inExit (WQ.then (hK11 _ _ _ (WC.seq fun K22 hK22=>WC.region (WL.z (vS go n n) 36 (WL.z (vS go n n) 6 (WL.nil (WQ.then ?_))))))))));refine hK22 _ _ _ (WC.ret ?_);refine WQ.ret1 6 rfl rfl ?_;rw [brow_congr (mkF_at (by omega) hTe (f:=mk1 s y l c n (trC c n)) (fun _=>rfl))] at hInv;exact⟨go,rfl,HP.drop (HP.drop hInv 1) 0⟩
def plC (c A B:Nat→Int) (n:Nat):Bool:=decide (Ec.chk c A B false n=0) && !farB c n
theorem okC_pl (s y l m:Int) (c A B:Nat→Int) (n:Nat):okC s y l m c A B n=(vG s y l m && plC c A B n):=rfl
theorem Plain_any (p:Option Addr) (n cap:Nat) (c A B:Nat→Int) (w:World) (hIn:Ec.InC w p n c A B) (hn:n≤400) :
  Calls Tryz.prog 12 #[.slice p n cap] w fun e w'=>e=.returned (.bool (plC c A B n))∧Below w.heap.size w w':=by
 refine calls_of Tryz.func12 rfl (m:=27) rfl [(0,.slice p n cap)] (Fr_enter [.slice p n cap] 27 (Nat.le_of_ble_eq_true rfl)) ?_;have hH1:HP Tr w w []:=HP.refl w;refine WC.seq fun K2 hK2=>WC.region (WL.z (.bool false) 2 (WL.k hK2 (WC.seq fun K3 hK3=>WC.seq fun K4 hK4=>WC.region (WL.z (.slice p n cap) 4 ?_))));refine WL.c 26 #[.slice p n cap,.bool false] 5 ?_;refine(Ec.rCheck_any p n cap c A B false _ (hIn.below (HP.below hH1)) hn).mono ?_;rintro e w5 ⟨rfl,hb6⟩;refine⟨_,rfl,?_⟩;have hH7:=HP.call hH1 hb6;by_cases hck9:(Ec.chk c A B false n)≠0
 ·
  have hck:¬ Ec.chk c A B false n=0:=hck9;refine WL.y (.bool true) 6 (x_neq rfl rfl rfl (dT (hck9))) (WL.k hK4 ?_);refine WC.yes rfl ?_;refine WC.seq fun K8 hK8=>WC.region (WL.z (.bool false) 2 (WL.k hK8 (WC.ret ?_)));refine WQ.thenRet ?_;refine WQ.ret1 2 rfl rfl ?_;exact⟨by rw [show plC c A B n=false from by unfold plC;rw [decide_eq_false hck];rfl],HP.below hH7⟩
 ·
  have hck:Ec.chk c A B false n=0:=Decidable.not_not.1 hck9;refine WL.y (.bool false) 6 (x_neq rfl rfl rfl (dF (hck9))) (WL.k hK4 ?_);refine WC.no rfl ?_;refine WC.skip (WQ.then (hK3 _ _ _ (WC.seq fun K9 hK9=>WC.seq fun K10 hK10=>WC.region (WL.z (vI 0) 3 (WL.k hK10 (WC.block ?_))))));refine WC.loop (fun kk0 ll0 ww0=>∃ (i:Nat),ll0=[(0,.slice p n cap),(3,vI (i:Int))]∧kk0=n-i∧(i≤n)∧(∀ j,j<i→farO (c j)=false)∧HP Tr w ww0 []) (n) [(0,.slice p n cap),(3,vI 0)] ⟨rfl,rfl,trivial⟩ ⟨0,rfl,rfl,Nat.zero_le _,(fun j hj=>by omega),hH7⟩ ?_;rintro kk l w12 ⟨i,rfl,hkk,hi,hall,hH13⟩ K11 hK11;refine WC.seq fun K14 hK14=>WC.seq fun K15 hK15=>WC.region (WL.z (vI (i:Int)) 7 (WL.z (.slice p n cap) 8 (WL.z (vI (n:Int)) 9 ?_)));by_cases hlt:(i:Int)<(n:Int)
  ·
   refine WL.y (.bool true) 10 (x_lss rfl rfl rfl (dT (hlt))) (WL.k hK15 ?_);refine WC.yes rfl ?_;refine WC.skip (WQ.then (hK14 _ _ _ (WC.seq fun K16 hK16=>WC.block (WC.seq fun K17 hK17=>?_))));obtain⟨bb,oo,rfl,hrow⟩:=hIn (by omega);refine WC.region (WL.z (.slice (some ⟨bb,oo,none⟩) n cap) 13 (WL.z (vI (i:Int)) 14 (WL.y (vP bb (oo+i*3)) 15 (x_ix (i) (oo+i*3) Tryz.underlying24 sz51) (WL.z (vP bb (oo+i*3)) 16 (WL.y (vI (c i)) 17 (x_load rfl rfl Tryz.underlying3 rfl ((HP.oldRange hH13 trivial (hrow i (by omega))) 0 _ rfl)) ?_)))));by_cases h25:c i=25
   ·
    refine WL.y (.bool true) 18 (x_eql rfl rfl rfl (dT (h25))) (WL.z (.bool true) 19 (WL.p 20 (WL.p 21 (WL.p 22 (WL.p 23 (WL.p 24 (WL.p 25 (WL.z (.bool true) 26 (WL.k hK17 ?_)))))))));refine WC.sb [(0,.slice (some ⟨bb,oo,none⟩) n cap),(3,vI (i:Int)),(10,.bool true),(26,.bool true)] ?_;refine WC.yes rfl ?_;refine WC.seq fun K18 hK18=>WC.region (WL.z (.bool false) 2 (WL.k hK18 (WC.ret ?_)));refine WQ.inRet ?_;refine WQ.thenRet ?_;refine WQ.thenRet ?_;refine WQ.inRet ?_;refine WQ.thenRet ?_;refine WQ.ret1 2 rfl rfl ?_;exact⟨by rw [show plC c A B n=false from by unfold plC;rw [farB_yes (show i<n by omega) (by unfold farO;simp [h25])];simp],HP.below hH13⟩
   ·
    refine WL.y (.bool false) 18 (x_eql rfl rfl rfl (dF (h25))) (WL.z (.bool false) 19 (WL.z (.slice (some ⟨bb,oo,none⟩) n cap) 20 (WL.z (vI (i:Int)) 21 (WL.y (vP bb (oo+i*3)) 22 (x_ix (i) (oo+i*3) Tryz.underlying24 sz51) (WL.z (vP bb (oo+i*3)) 23 (WL.y (vI (c i)) 24 (x_load rfl rfl Tryz.underlying3 rfl ((HP.oldRange hH13 trivial (hrow i (by omega))) 0 _ rfl)) ?_))))));by_cases h26:c i=26
    ·
     refine WL.y (.bool true) 25 (x_eql rfl rfl rfl (dT (h26))) (WL.z (.bool true) 26 (WL.k hK17 (WC.sb [(0,.slice (some ⟨bb,oo,none⟩) n cap),(3,vI (i:Int)),(10,.bool true),(26,.bool true)] ?_)));refine WC.yes rfl ?_;refine WC.seq fun K19 hK19=>WC.region (WL.z (.bool false) 2 (WL.k hK19 (WC.ret ?_)));refine WQ.inRet ?_;refine WQ.thenRet ?_;refine WQ.thenRet ?_;refine WQ.inRet ?_;refine WQ.thenRet ?_;refine WQ.ret1 2 rfl rfl ?_;exact⟨by rw [show plC c A B n=false from by unfold plC;rw [farB_yes (show i<n by omega) (by unfold farO;simp [h26])];simp],HP.below hH13⟩
    ·
     refine WL.y (.bool false) 25 (x_eql rfl rfl rfl (dF (h26))) (WL.z (.bool false) 26 (WL.k hK17 (WC.sb [(0,.slice (some ⟨bb,oo,none⟩) n cap),(3,vI (i:Int)),(10,.bool true),(26,.bool false)] ?_)));refine WC.no rfl ?_;refine WC.skip (WQ.inNormal (WQ.then (hK16 _ _ _ (WC.region (WL.z (vI (i:Int)) 11 (WL.y (vI ((i+1:Nat):Int)) 12 (x_ad (((i+1:Nat):Int))) (WL.z (vI ((i+1:Nat):Int)) 3 (WL.nil (WQ.sb [(0,.slice (some ⟨bb,oo,none⟩) n cap),(3,vI ((i+1:Nat):Int))] ?_)))))))));refine WQ.then (hK11 _ _ _ (by omega) ⟨i+1,rfl,rfl,by omega,(fun j hj=>by
            by_cases q:j=i
            · subst q;unfold farO;rw [decide_eq_false h25,decide_eq_false h26];rfl
            · exact hall j (by omega)),hH13⟩)
  ·
   refine WL.y (.bool false) 10 (x_lss rfl rfl rfl (dF (hlt))) (WL.k hK15 ?_);refine WC.no rfl ?_;refine WC.exit (WQ.thenExit (WQ.thenExit (WQ.inExit (WQ.then (hK9 _ _ _ (WC.seq fun K20 hK20=>WC.region (WL.z (.bool true) 2 (WL.k hK20 ?_))))))));refine WC.ret ?_;refine WQ.ret1 2 rfl rfl ?_;exact⟨by rw [show plC c A B n=true from by unfold plC;rw [farB_no (fun j hj=>hall j (by omega)),decide_eq_true hck];rfl],HP.below hH13⟩
theorem rValid_at {s y l m:Int} {r:Bool} (h:vG s y l m=r) (w:World):Calls Tryz.prog 21 #[.agg #[vI s,vI y,vI l,vI m]] w fun e w'=>e=.returned (.bool r)∧Below w.heap.size w w':=h ▸ rValid_any s y l m w
theorem Plain_at {c A B:Nat→Int} {n:Nat} {r:Bool} (h:plC c A B n=r) (p:Option Addr) (cap:Nat) (w:World) (hIn:Ec.InC w p n c A B) (hn:n≤400):Calls Tryz.prog 12 #[.slice p n cap] w fun e w'=>e=.returned (.bool r)∧Below w.heap.size w w':=h ▸ Plain_any p n cap c A B w hIn hn
theorem rMust_any (s y l m:Int) (p:Option Addr) (n cap:Nat) (c A B:Nat→Int) (w:World) (hIn:Ec.InC w p n c A B) (hn:n≤400) :
  Calls Tryz.prog 7 #[.agg #[vI s,vI y,vI l,vI m],.slice p n cap] w (MarkR0 s y l m c A B n (trC c n) w):=by
 refine calls_of Tryz.func7 rfl (m:=17) rfl [(0,.agg #[vI s,vI y,vI l,vI m]),(1,.slice p n cap)] (Fr_enter [.agg #[vI s,vI y,vI l,vI m],.slice p n cap] 17 (Nat.le_of_ble_eq_true rfl)) ?_;have hH1:HP Tr w w []:=HP.refl w;refine WC.seq fun K2 hK2=>WC.region ?_;refine WL.alloc (c:=#[vI s,vI y,vI l,vI m]) (T:=23) hH1 2 rfl (by decide) rfl rfl (fun b2=>vP b2 0) (by kernel_rfl) (fun b2 w3 hw3=>?_);have hH4:HP Tr w w3 [.cel b2 #[vI s,vI y,vI l,vI m] 23]:=hw3.2;have nb2:=hw3.1;clear hw3;refine WL.z (.slice none 0 0) 4 (WL.z (vI 0) 5 (WL.k hK2 (WC.seq fun K5 hK5=>WC.seq fun K6 hK6=>WC.region (WL.y (.agg #[vI s,vI y,vI l,vI m]) 6 (x_loadS (cs:=[vI s,vI y,vI l,vI m]) rfl rfl Tryz.underlying23 rfl sz23 (HP.range hH4 0 rfl rfl)) ?_))));rcases Bool.eq_false_or_eq_true (vG s y l m) with hg | hg
 ·
  refine WL.c 21 #[.agg #[vI s,vI y,vI l,vI m]] 7 ?_;refine(rValid_at hg _).mono ?_;rintro e w7 ⟨rfl,hb8⟩;refine⟨_,rfl,?_⟩;have hH9:=HP.call hH4 hb8;refine WL.z (.bool false) 8 (WL.z (.bool false) 9 (WL.z (.slice p n cap) 10 ?_));rcases Bool.eq_false_or_eq_true (plC c A B n) with hpl | hpl
  ·
   refine WL.c 12 #[.slice p n cap] 11 ?_;refine(Plain_at hpl p cap _ (hIn.below (HP.below hH9)) hn).mono ?_;rintro e w10 ⟨rfl,hb11⟩;refine⟨_,rfl,?_⟩;have hH12:=HP.call hH9 hb11;refine WL.z (.bool false) 12 (WL.z (.bool false) 13 (WL.k hK6 (WC.sb [(0,.agg #[vI s,vI y,vI l,vI m]),(1,.slice p n cap),(2,vP b2 0),(4,.slice none 0 0),(5,vI 0),(13,.bool false)] ?_)));refine WC.no rfl ?_;refine WC.skip (WQ.then (hK5 _ _ _ (WC.seq fun K13 hK13=>WC.region (WL.y (.agg #[vI s,vI y,vI l,vI m]) 14 (x_loadS (cs:=[vI s,vI y,vI l,vI m]) rfl rfl Tryz.underlying23 rfl sz23 (HP.range hH12 0 rfl rfl)) (WL.z (.slice p n cap) 15 ?_)))));have hc0:Ec.chk c A B false n=0:=(by unfold plC at hpl;simp at hpl;exact hpl.1);refine WL.c 22 #[.agg #[vI s,vI y,vI l,vI m],.slice p n cap,.bool false] 16 ?_;refine(marked0_any s y l m p n cap c A B _ (hIn.below (HP.below hH12)) hg hc0).mono ?_;rintro e w14 ⟨go,rfl,hb15⟩;refine⟨_,rfl,?_⟩;have hH16:HP Tr w _ [.cel b2 #[vI s,vI y,vI l,vI m] 23,.cel go (brow n (mk0 s y l c n (trC c n))) 4]:=HP.trans hH12 hb15;refine WL.z (vS go n n) 4 (WL.z (vI 0) 5 (WL.k hK13 (WC.ret ?_)));refine WQ.ret2 4 5 rfl rfl rfl ?_;exact .inr ⟨by rw [okC_pl,hg,hpl];rfl,go,rfl,HP.drop hH16 0⟩
  ·
   refine WL.c 12 #[.slice p n cap] 11 ?_;refine(Plain_at hpl p cap _ (hIn.below (HP.below hH9)) hn).mono ?_;rintro e w17 ⟨rfl,hb18⟩;refine⟨_,rfl,?_⟩;have hH19:=HP.call hH9 hb18;refine WL.z (.bool true) 12 (WL.z (.bool true) 13 (WL.k hK6 (WC.sb [(0,.agg #[vI s,vI y,vI l,vI m]),(1,.slice p n cap),(2,vP b2 0),(4,.slice none 0 0),(5,vI 0),(13,.bool true)] ?_)));refine WC.yes rfl ?_;refine WC.seq fun K20 hK20=>WC.region (WL.z (.slice none 0 0) 4 (WL.z (vI 1) 5 (WL.k hK20 (WC.ret ?_))));refine WQ.thenRet ?_;refine WQ.ret2 4 5 rfl rfl rfl ?_;exact .inl ⟨by rw [okC_pl,hg,hpl];rfl,rfl,HP.below hH19⟩
 ·
  refine WL.c 21 #[.agg #[vI s,vI y,vI l,vI m]] 7 ?_;refine(rValid_at hg _).mono ?_;rintro e w21 ⟨rfl,hb22⟩;refine⟨_,rfl,?_⟩;have hH23:=HP.call hH4 hb22;refine WL.z (.bool true) 8 (WL.z (.bool true) 9 (WL.p 10 (WL.p 11 (WL.p 12 (WL.z (.bool true) 13 (WL.k hK6 (WC.sb [(0,.agg #[vI s,vI y,vI l,vI m]),(1,.slice p n cap),(2,vP b2 0),(4,.slice none 0 0),(5,vI 0),(13,.bool true)] ?_)))))));refine WC.yes rfl ?_;refine WC.seq fun K24 hK24=>WC.region (WL.z (.slice none 0 0) 4 (WL.z (vI 1) 5 (WL.k hK24 (WC.ret ?_))));refine WQ.thenRet ?_;refine WQ.ret2 4 5 rfl rfl rfl ?_;exact .inl ⟨by rw [okC_pl,hg];rfl,rfl,HP.below hH23⟩
end Ca
end Go.Proofs.YtmjnakhpekbenaaGreat
