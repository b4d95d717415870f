/- What the proof of CacheMarks stands on, part 6 of 6. -/
import Derived.BigQuiet
import Derived.BigRegion
import Derived.CallsIn
import Derived.ChangeAlike
import Derived.ChangeArms
import Derived.ChangeKeysEq
import Derived.ChangeSlices
import Derived.Deep.AppendLies
import Derived.Deep.CutRange
import Derived.Deep.DeepCutAuto
import Derived.Deep.Heap
import Derived.Deep.LoopGhost
import Derived.Deep.Matrix
import Derived.Deep.MidRow
import Derived.Deep.QuietTactic
import Derived.Deep.Slices
import Derived.Great.BuildSlice
import Derived.Great.Walk
import Derived.Ground.Names2Prog
import Derived.Ground.SlgnProg
import Derived.Ground.SlsfProg
import Derived.Handy
import Derived.KernelRfl
import Derived.Laws.AppendOwn
import Derived.Laws.AppendOwnNone
import Derived.Laws.CopyRow
import Derived.Laws.Externs
import Derived.Laws.MakeOwn
import Derived.Laws.Rows
import Derived.Laws.StructEq
import Derived.Lib.AppendZerosOnto
import Derived.Lib.Overlaps
import Derived.Lib.QuietBelow
import Derived.Lib.SliceRun
import Derived.Maps.Own
import Derived.Maps.OwnOps
import Derived.Maps.OwnSet
import Derived.Maps.Views
import Derived.OpenShut
import Derived.Orders
import Derived.OrdersIn
import Derived.RangeFuncFrom
import Derived.RangeFuncLeaves
import Derived.RangeFuncWrites
import Derived.RegionTactic
import Derived.Shelf.SlSortCmp.HeapSortK
import Derived.Shelf.SlSortCmp.InsertionK
import Derived.Shelf.SlSortCmp.MedianK
import Derived.Shelf.SlSortCmp.NoneTotal
import Derived.Shelf.SlSortCmp.PartialInsertionK
import Derived.Shelf.SlSortCmp.PartitionEqualK
import Derived.Shelf.SlSortCmp.PartitionK
import Derived.Shelf.SlSortCmp.PdqK
import Derived.Shelf.SlSortCmp.PivotK
import Derived.Shelf.SlSortCmp.ReverseRangeK
import Derived.Shelf.SlSortCmp.SiftDownK
import Derived.Shelf.Slices.Cells
import Derived.Shelf.Slices.Clone
import Derived.Shelf.Slices.Delete
import Derived.Shelf.Slices.Empties
import Derived.Shelf.Slices.SearchI
import Derived.Shelf.Slices.Turned
import Derived.Shelf.SlicesE.Clone
import Derived.Shelf.SlicesE.Delete
import Derived.Shelf.SlicesQ.Reverse
import Derived.Shelf.Small.Bits
import Derived.Shelf.Small.Wraps
import Derived.Shelf.Strconv.Itoa0
import Derived.SizedLaws
import Derived.Sort.AssemblyPlain
import Derived.Still
import Derived.StillTail
import Derived.TacticsIn
import Derived.Test.YtmjnakhpekbenaaGreatProg
import Derived.WalkKit
import Derived.WalkLawsBesides
import Derived.Test.YtmjnakhpekbenaaGreatCacheMarksE
set_option linter.unusedVariables false
set_option linter.unusedSimpArgs false
namespace Go.Proofs.YtmjnakhpekbenaaGreat
open Fw
namespace Ca
section
variable {s y l m : Int}
theorem mustP_le {X:List (List Int)} {a b:List T2} (h:leM a b) (hm:mustP s X a):mustP s X b:=fun z c hc=>by
  obtain⟨a',g1,g2⟩:=h z c hc;obtain⟨b1,b2⟩:=hm z a' g1;exact⟨b1,by omega⟩
theorem mayP_le {X:List (List Int)} {a b:List T2} (hb:VT s y l m b) (h:leN a b) (hm:mayP y X a):mayP y X b:=fun k hk i z hz=>by
  have h1:=hm k hk i z hz;have h2:=getD_N hb h z;omega
variable {c A B : Nat → Int} {n : Nat}
noncomputable abbrev xM (s y l:Int) (c:Nat→Int) (n:Nat):=Fl.sol (opsM s y l) (cdOf c n) (trC c n) [] (fun _=>[])
noncomputable abbrev xN (s y l:Int) (c:Nat→Int) (n:Nat):=Fl.sol (opsN s y l) (cdOf c n) (trC c n) [] (fun _=>[])
theorem goodM (hg:vG s y l m=true) (hc:Ec.chk c A B false n=0) (hn:n≤400):Fl.Good (latM s y l m hg) (cdOf c n) 0 n [] (fun _=>[]) (xM s y l c n) :=
  Fl.sol_good (L:=latM s y l m hg) (trC c n) 0 n [] (fun _=>[]) (trC_is hc) (by omega) (VT.nil hg)
theorem goodN (hg:vG s y l m=true) (hc:Ec.chk c A B false n=0) (hn:n≤400):Fl.Good (latN s y l m hg) (cdOf c n) 0 n [] (fun _=>[]) (xN s y l c n) :=
  Fl.sol_good (L:=latN s y l m hg) (trC c n) 0 n [] (fun _=>[]) (trC_is hc) (by omega) (VT.nil hg)
theorem must_edge (hg:vG s y l m=true) (hc:Ec.chk c A B false n=0) (hn:n≤400) {v v':Nat} (h:∃ i,i<n∧(v,v')∈Fl.ways (cdOf c n) i) {X:List (List Int)} (hX:okSt s y l m X=true) (hm:mustP s X (Fl.V (xM s y l c n) n v)) :
    v<n∧v'≤n∧mustP s (stp s y l (v:Int) X) (Fl.V (xM s y l c n) n v'):=by
  have G:=goodM (A:=A) (B:=B) hg hc hn;obtain⟨i,hi,hp⟩:=h;obtain⟨-,h2,-,h4,h5⟩:=G.way i (Nat.zero_le _) hi _ hp;refine⟨h2,h4,mustP_le h5 ?_⟩;rw [Fl.V_lt h2] at hm;exact must_touch hX (G.oka v (Nat.zero_le _) h2) ⟨by omega,by omega⟩ hm
theorem may_edge (hg:vG s y l m=true) (hc:Ec.chk c A B false n=0) (hn:n≤400) {v v':Nat} (h:∃ i,i<n∧(v,v')∈Fl.ways (cdOf c n) i) {X:List (List Int)} (hX:okSt s y l m X=true) (hm:mayP y X (Fl.V (xN s y l c n) n v)) :
    mayP y (stp s y l (v:Int) X) (Fl.V (xN s y l c n) n v'):=by
  have G:=goodN (A:=A) (B:=B) hg hc hn;obtain⟨i,hi,hp⟩:=h;obtain⟨-,h2,-,h4,h5⟩:=G.way i (Nat.zero_le _) hi _ hp;have h6:VT s y l m (Fl.V (xN s y l c n) n v'):=Fl.okV G h4;refine mayP_le h6 h5 ?_;rw [Fl.V_lt h2] at hm;exact may_touch hX (G.oka v (Nat.zero_le _) h2) ⟨by omega,by omega⟩ hm
theorem hit_iffI {X:List (List Int)} {a:Int}:hitN s l a X=1↔a/l∈X.getD (setN s l a) []:=by
  unfold hitN;rw [idx_plc];constructor
  · intro h
    split at h
    · rename_i h2;simpa using plcV_ge.1 h2
    · cases h
  · intro h
    rw [if_pos (plcV_ge.2 (by simpa using h))]
theorem mk0_eq {R:Fl.Tr} {v:Nat}:mk0 s y l c n R v=(ageT ((Fl.sol (opsM s y l) (cdOf c n) R [] (fun _=>[])).2 v) ((v:Int)/l)).isSome:=by
  show mkK false s y l c n R v=_;unfold mkK;rw [opsK_f]
theorem mk1_eq {R:Fl.Tr} {v:Nat}:mk1 s y l c n R v=(ageT ((Fl.sol (opsN s y l) (cdOf c n) R [] (fun _=>[])).2 v) ((v:Int)/l)).isSome:=by
  show mkK true s y l c n R v=_;unfold mkK;rw [opsK_t]
theorem must_at {v:Nat} {X:List (List Int)} (hv:v<n) (hm:mustP s X (Fl.V (xM s y l c n) n v)) (h:mk0 s y l c n (trC c n) v=true):hitN s l (v:Int) X=1:=by
  rw [Fl.V_lt hv] at hm;rw [mk0_eq] at h;obtain⟨a,ha⟩:=Option.isSome_iff_exists.1 h;have:=(hm _ _ ha).1;exact hit_iffI.2 (by unfold setN;simpa using plcV_ge.1 this)
theorem may_at {v:Nat} {X:List (List Int)} (hv:v<n) (hn:n≤400) (hX:okSt s y l m X=true) (hm:mayP y X (Fl.V (xN s y l c n) n v)) (h:hitN s l (v:Int) X=1):mk1 s y l c n (trC c n) v=true:=by
  rw [Fl.V_lt hv] at hm;obtain⟨h1,h2,h3⟩:=okSt_iff.1 hX;obtain⟨hs,hy,hl,-⟩:=vG_iff.1 h1;obtain⟨e1,e2⟩:=setN_spec (a:=(v:Int)) hs hl ⟨by omega,by omega⟩;have hk:setN s l (v:Int)<X.length:=(by omega);obtain⟨i,hi⟩:=List.mem_iff_getElem?.1 (hit_iffI.1 h);have h4:=hm _ hk i _ hi;have h5:=(row_ok hX hk).1;have h6:=(List.getElem?_eq_some_iff.1 hi).1;rw [mk1_eq];cases q:ageT ((xN s y l c n).2 v) ((v:Int)/l) with
  | some a=>rfl
  | none=>rw [q] at h4;simp at h4;omega
theorem nil_may {X:List (List Int)} (h:∀ k,X.getD k []=[]) (u:List T2):mayP y X u:=fun k hk i z hz=>by rw [h k] at hz;simp at hz
theorem nil_must (X:List (List Int)):mustP s X []:=fun z c hc=>by cases hc
abbrev nilX (s:Int):List (List Int):=List.replicate s.toNat []
theorem nilX_row (s:Int) (k:Nat):(nilX s).getD k []=[]:=by
  rw [List.getD_eq_getElem?_getD,List.getElem?_replicate];split <;> rfl
theorem nilX_ok (hg:vG s y l m=true):okSt s y l m (nilX s)=true:=by
  have h9:=okSt_nil (s:=s) (y:=y) (l:=l) (m:=m) hg;have e9:stX (nilS s.toNat)=nilX s:=(by simp [stX]);rw [e9] at h9;exact h9
def Both (s y l m:Int) (c:Nat→Int) (n v:Nat):Prop:=∃ X,okSt s y l m X=true∧mustP s X (Fl.V (xM s y l c n) n v)∧mayP y X (Fl.V (xN s y l c n) n v)
theorem both_all (hg:vG s y l m=true) (hc:Ec.chk c A B false n=0) (hn:n≤400) (v:Nat) (hv:v≤n):Both s y l m c n v:=by
  have G:=goodN (A:=A) (B:=B) hg hc hn;have G0:=goodM (A:=A) (B:=B) hg hc hn
  classical
  have h0:Both s y l m c n 0:=⟨nilX s,nilX_ok hg,by rw [G0.fst];exact nil_must _,nil_may (nilX_row s) _⟩
  obtain ⟨z, hz, -⟩ := G.least (fun v => if v ≤ n ∧ Both s y l m c n v then some (Fl.V (xN s y l c n) n v) else none)
    (fun v y1 hy=>by
      split at hy
      · rename_i h;cases hy;exact Fl.okV G h.1
      · cases hy)
    (fun i h1 h2 p hp y1 hy=>by
      split at hy
      · rename_i h; cases hy
        obtain⟨q1,X,q2,q3,q4⟩:=h;have he:∃ i,i<n∧(p.1,p.2)∈Fl.ways (cdOf c n) i:=⟨i,h2,hp⟩;obtain⟨e1,e2,e3⟩:=must_edge hg hc hn he q2 q3;have e4:=may_edge hg hc hn he q2 q4;refine⟨Fl.V (xN s y l c n) n p.2,if_pos ⟨e2,_,okSt_stp q2 ⟨by omega,by omega⟩,e3,e4⟩,?_⟩;rw [Fl.V_lt e1];exact(G.way i (Nat.zero_le _) h2 p hp).2.2.2.2
      · cases hy)
    (Fl.V (xN s y l c n) n 0) (if_pos ⟨Nat.zero_le _,h0⟩) (by rw [G.fst];exact leN_refl _) v (Nat.zero_le _) hv
  split at hz
  · rename_i h;exact h.2
  · cases hz
theorem mk_sub (hg:vG s y l m=true) (hc:Ec.chk c A B false n=0) (hn:n≤400) {v:Nat} (hv:v<n) (h:mk0 s y l c n (trC c n) v=true):mk1 s y l c n (trC c n) v=true:=by
  obtain⟨X,h1,h2,h3⟩:=both_all (A:=A) (B:=B) hg hc hn v (by omega);exact may_at hv hn h1 h3 (must_at hv h2 h)
end
end Ca
end Go.Proofs.YtmjnakhpekbenaaGreat
namespace Go.Proofs.YtmjnakhpekbenaaGreat
set_option maxRecDepth 20000
set_option maxHeartbeats 4000000
open Go.RowKit Fw
namespace Ca
def BoI (w:World) (g n:Nat) (f:Nat→Bool):Prop:=∀ i,i<n→w.rangeAt g i [.bool (f i)]
theorem BoI.below {w w':World} {g n:Nat} {f:Nat→Bool} (h:BoI w g n f) (hb:Below w.heap.size w w'):BoI w' g n f:=fun i hi j v hv=>by
  rw [hb.cell (World.block_lt_of_cell? w _ (h i hi j v hv))];exact h i hi j v hv
theorem bo_in {w0 w:World} {S:Nat→Prop} {H:List Ent} {g n:Nat} {f:Nat→Bool} (h:HP S w0 w H) (k:Nat) (hk:H[k]?=some (.cel g (brow n f) 4)):BoI w g n f:=fun i hi=>range1 (HP.cell h k hk (brow_get hi rfl))
theorem Mark0_no {P:Program} {s y l m:Int} {c A B:Nat→Int} {n:Nat} {R:Fl.Tr} {f:Nat} {args:Array Value} {w:World} (h:Calls P f args w (MarkR0 s y l m c A B n R w)) (hk:okC s y l m c A B n=false):Calls P f args w fun e w'=>e=.returned (.tuple #[.slice none 0 0,vI 1])∧Below w.heap.size w w':=h.mono fun e w' h=>by
  rcases h with ⟨-,h1,h2⟩ | ⟨h1,-⟩
  · exact⟨h1,h2⟩
  · rw [hk] at h1;cases h1
theorem Mark0_yes {P:Program} {s y l m:Int} {c A B:Nat→Int} {n:Nat} {R:Fl.Tr} {f:Nat} {args:Array Value} {w:World} (h:Calls P f args w (MarkR0 s y l m c A B n R w)) (hk:okC s y l m c A B n=true):Calls P f args w fun e w'=>∃ go,e=.returned (.tuple #[vS go n n,vI 0])∧BoI w' go n (mk0 s y l c n R)∧Below w.heap.size w w':=h.mono fun e w' h=>by
  rcases h with ⟨h1,-⟩ | ⟨-,go,h1,h2⟩
  · rw [hk] at h1;cases h1
  · exact⟨go,h1,bo_in h2 0 rfl,HP.below h2⟩
theorem Mark1_no {P:Program} {s y l m:Int} {c A B:Nat→Int} {n:Nat} {R:Fl.Tr} {f:Nat} {args:Array Value} {w:World} (h:Calls P f args w (MarkR1 s y l m c A B n R w)) (hk:okC s y l m c A B n=false):Calls P f args w fun e w'=>e=.returned (.tuple #[.slice none 0 0,vI 1])∧Below w.heap.size w w':=h.mono fun e w' h=>by
  rcases h with ⟨-,h1,h2⟩ | ⟨h1,-⟩
  · exact⟨h1,h2⟩
  · rw [hk] at h1;cases h1
theorem Mark1_yes {P:Program} {s y l m:Int} {c A B:Nat→Int} {n:Nat} {R:Fl.Tr} {f:Nat} {args:Array Value} {w:World} (h:Calls P f args w (MarkR1 s y l m c A B n R w)) (hk:okC s y l m c A B n=true):Calls P f args w fun e w'=>∃ go,e=.returned (.tuple #[vS go n n,vI 0])∧BoI w' go n (mk1 s y l c n R)∧Below w.heap.size w w':=h.mono fun e w' h=>by
  rcases h with ⟨h1,-⟩ | ⟨-,go,h1,h2⟩
  · rw [hk] at h1;cases h1
  · exact⟨go,h1,bo_in h2 0 rfl,HP.below h2⟩
theorem MayA (s y l m:Int) (p:Option Addr) (n cap:Nat) (c A B:Nat→Int) (w:World) (hIn:Ec.InC w p n c A B) (hn:n≤400) :
  Calls Tryz.prog 8 #[.agg #[vI s,vI y,vI l,vI m],.slice p n cap] w (MarkR1 s y l m c A B n (trC c n) w):=by
 refine calls_of Tryz.func8 rfl (m:=11) rfl [(0,.agg #[vI s,vI y,vI l,vI m]),(1,.slice p n cap)] (Fr_enter [.agg #[vI s,vI y,vI l,vI m],.slice p n cap] 11 (Nat.le_of_ble_eq_true rfl)) ?_;have hH1:HP Tr w w []:=HP.refl w;refine WC.seq fun K2 hK2=>WC.region ?_;refine WL.alloc (c:=#[vI s,vI y,vI l,vI m]) (T:=23) hH1 2 rfl (by decide) rfl rfl (fun b2=>vP b2 0) (by kernel_rfl) (fun b2 w3 hw3=>?_);have hH4:HP Tr w w3 [.cel b2 #[vI s,vI y,vI l,vI m] 23]:=hw3.2;have nb2:=hw3.1;clear hw3;refine WL.z (.slice none 0 0) 4 (WL.z (vI 0) 5 (WL.k hK2 (WC.seq fun K5 hK5=>WC.region (WL.y (.agg #[vI s,vI y,vI l,vI m]) 6 (x_loadS (cs:=[vI s,vI y,vI l,vI m]) rfl rfl Tryz.underlying23 rfl sz23 (HP.range hH4 0 rfl rfl)) (WL.z (.slice p n cap) 7 ?_)))));refine WL.c 18 #[.agg #[vI s,vI y,vI l,vI m],.slice p n cap,.func (.func 23) #[] #[],.func (.func 24) #[] #[]] 8 ?_;refine(marks1_any s y l m p n cap c A B (trC c n) (hR1 hn) _ (hIn.below (HP.below hH4)) hn).mono ?_;rintro e w4 (⟨hno,rfl,hb⟩ | ⟨hyes,go,rfl,hb⟩)
 ·
  refine⟨_,rfl,?_⟩;have hH6:=HP.call hH4 hb;refine WL.z (.slice none 0 0) 9 (WL.z (vI 1) 10 (WL.z (.slice none 0 0) 4 (WL.z (vI 1) 5 (WL.k hK5 (WC.sb [(0,.agg #[vI s,vI y,vI l,vI m]),(1,.slice p n cap),(2,vP b2 0),(4,.slice none 0 0),(5,vI 1)] (WC.ret ?_))))));refine WQ.ret2 4 5 rfl rfl rfl ?_;exact .inl ⟨hno,rfl,HP.below hH6⟩
 ·
  refine⟨_,rfl,?_⟩;have hH7:HP Tr w _ [.cel b2 #[vI s,vI y,vI l,vI m] 23,.cel go (brow n (mk1 s y l c n (trC c n))) 4]:=HP.trans hH4 hb;refine WL.z (vS go n n) 9 (WL.z (vI 0) 10 (WL.z (vS go n n) 4 (WL.z (vI 0) 5 (WL.k hK5 (WC.sb [(0,.agg #[vI s,vI y,vI l,vI m]),(1,.slice p n cap),(2,vP b2 0),(4,vS go n n),(5,vI 0)] (WC.ret ?_))))));refine WQ.ret2 4 5 rfl rfl rfl ?_;exact .inr ⟨hyes,go,rfl,HP.drop hH7 0⟩
theorem rMay_any (s y l m:Int) (p:Option Addr) (n cap:Nat) (c A B:Nat→Int) (w:World) (hIn:Ec.InC w p n c A B) (hn:n≤400) :
  Calls Tryz.prog 9 #[.agg #[vI s,vI y,vI l,vI m],.slice p n cap] w (MarkR1 s y l m c A B n (trC c n) w):=by
 refine calls_of Tryz.func9 rfl (m:=17) rfl [(0,.agg #[vI s,vI y,vI l,vI m]),(1,.slice p n cap)] (Fr_enter [.agg #[vI s,vI y,vI l,vI m],.slice p n cap] 17 (Nat.le_of_ble_eq_true rfl)) ?_;have hH1:HP Tr w w []:=HP.refl w;refine WC.seq fun K2 hK2=>WC.region ?_;refine WL.alloc (c:=#[vI s,vI y,vI l,vI m]) (T:=23) hH1 2 rfl (by decide) rfl rfl (fun b2=>vP b2 0) (by kernel_rfl) (fun b2 w3 hw3=>?_);have hH4:HP Tr w w3 [.cel b2 #[vI s,vI y,vI l,vI m] 23]:=hw3.2;have nb2:=hw3.1;clear hw3;refine WL.z (.slice none 0 0) 4 (WL.z (vI 0) 5 (WL.k hK2 (WC.seq fun K5 hK5=>WC.seq fun K6 hK6=>WC.region (WL.y (.agg #[vI s,vI y,vI l,vI m]) 6 (x_loadS (cs:=[vI s,vI y,vI l,vI m]) rfl rfl Tryz.underlying23 rfl sz23 (HP.range hH4 0 rfl rfl)) ?_))));rcases Bool.eq_false_or_eq_true (vG s y l m) with hg | hg
 ·
  refine WL.c 21 #[.agg #[vI s,vI y,vI l,vI m]] 7 ?_;refine(rValid_at hg _).mono ?_;rintro e w7 ⟨rfl,hb8⟩;refine⟨_,rfl,?_⟩;have hH9:=HP.call hH4 hb8;refine WL.z (.bool false) 8 (WL.z (.bool false) 9 (WL.z (.slice p n cap) 10 ?_));rcases Bool.eq_false_or_eq_true (plC c A B n) with hpl | hpl
  ·
   refine WL.c 12 #[.slice p n cap] 11 ?_;refine(Plain_at hpl p cap _ (hIn.below (HP.below hH9)) hn).mono ?_;rintro e w10 ⟨rfl,hb11⟩;refine⟨_,rfl,?_⟩;have hH12:=HP.call hH9 hb11;refine WL.z (.bool false) 12 (WL.z (.bool false) 13 (WL.k hK6 (WC.sb [(0,.agg #[vI s,vI y,vI l,vI m]),(1,.slice p n cap),(2,vP b2 0),(4,.slice none 0 0),(5,vI 0),(13,.bool false)] ?_)));refine WC.no rfl ?_;refine WC.skip (WQ.then (hK5 _ _ _ (WC.seq fun K13 hK13=>WC.region (WL.y (.agg #[vI s,vI y,vI l,vI m]) 14 (x_loadS (cs:=[vI s,vI y,vI l,vI m]) rfl rfl Tryz.underlying23 rfl sz23 (HP.range hH12 0 rfl rfl)) (WL.z (.slice p n cap) 15 ?_)))));have hc0:Ec.chk c A B false n=0:=(by unfold plC at hpl;simp at hpl;exact hpl.1);refine WL.c 22 #[.agg #[vI s,vI y,vI l,vI m],.slice p n cap,.bool true] 16 ?_;refine(marked1_any s y l m p n cap c A B _ (hIn.below (HP.below hH12)) hg hc0).mono ?_;rintro e w14 ⟨go,rfl,hb15⟩;refine⟨_,rfl,?_⟩;have hH16:HP Tr w _ [.cel b2 #[vI s,vI y,vI l,vI m] 23,.cel go (brow n (mk1 s y l c n (trC c n))) 4]:=HP.trans hH12 hb15;refine WL.z (vS go n n) 4 (WL.z (vI 0) 5 (WL.k hK13 (WC.ret ?_)));refine WQ.ret2 4 5 rfl rfl rfl ?_;exact .inr ⟨by rw [okC_pl,hg,hpl];rfl,go,rfl,HP.drop hH16 0⟩
  ·
   refine WL.c 12 #[.slice p n cap] 11 ?_;refine(Plain_at hpl p cap _ (hIn.below (HP.below hH9)) hn).mono ?_;rintro e w17 ⟨rfl,hb18⟩;refine⟨_,rfl,?_⟩;have hH19:=HP.call hH9 hb18;refine WL.z (.bool true) 12 (WL.z (.bool true) 13 (WL.k hK6 (WC.sb [(0,.agg #[vI s,vI y,vI l,vI m]),(1,.slice p n cap),(2,vP b2 0),(4,.slice none 0 0),(5,vI 0),(13,.bool true)] ?_)));refine WC.yes rfl ?_;refine WC.seq fun K20 hK20=>WC.region (WL.z (.slice none 0 0) 4 (WL.z (vI 1) 5 (WL.k hK20 (WC.ret ?_))));refine WQ.thenRet ?_;refine WQ.ret2 4 5 rfl rfl rfl ?_;exact .inl ⟨by rw [okC_pl,hg,hpl];rfl,rfl,HP.below hH19⟩
 ·
  refine WL.c 21 #[.agg #[vI s,vI y,vI l,vI m]] 7 ?_;refine(rValid_at hg _).mono ?_;rintro e w21 ⟨rfl,hb22⟩;refine⟨_,rfl,?_⟩;have hH23:=HP.call hH4 hb22;refine WL.z (.bool true) 8 (WL.z (.bool true) 9 (WL.p 10 (WL.p 11 (WL.p 12 (WL.z (.bool true) 13 (WL.k hK6 (WC.sb [(0,.agg #[vI s,vI y,vI l,vI m]),(1,.slice p n cap),(2,vP b2 0),(4,.slice none 0 0),(5,vI 0),(13,.bool true)] ?_)))))));refine WC.yes rfl ?_;refine WC.seq fun K24 hK24=>WC.region (WL.z (.slice none 0 0) 4 (WL.z (vI 1) 5 (WL.k hK24 (WC.ret ?_))));refine WQ.thenRet ?_;refine WQ.ret2 4 5 rfl rfl rfl ?_;exact .inl ⟨by rw [okC_pl,hg];rfl,rfl,HP.below hH23⟩
theorem bools_any (g1 g2 n:Nat) (f:Nat→Bool) (w:World) (h1:BoI w g1 n f) (h2:BoI w g2 n f) (hn:n≤400) :
  Calls Tryz.prog 10 #[vS g1 n n,vS g2 n n] w fun e w'=>e=.returned (.bool true)∧Below w.heap.size w w':=by
 refine calls_of Tryz.func10 rfl (m:=26) rfl [(0,vS g1 n n),(1,vS g2 n n)] (Fr_enter [vS g1 n n,vS g2 n n] 26 (Nat.le_of_ble_eq_true rfl)) ?_;have hH1:HP Tr w w []:=HP.refl w;refine WC.seq fun K2 hK2=>WC.region (WL.z (.bool false) 4 (WL.k hK2 (WC.seq fun K3 hK3=>WC.seq fun K4 hK4=>WC.region (WL.z (vS g1 n n) 6 (WL.z (vI (n:Int)) 7 (WL.z (vS g2 n n) 8 ?_))))));refine WL.z (vI (n:Int)) 9 (WL.y (.bool false) 10 (x_neq rfl rfl rfl (dF (fun h=>h rfl))) (WL.k hK4 ?_));refine WC.no rfl ?_;refine WC.skip (WQ.then (hK3 _ _ _ (WC.seq fun K5 hK5=>WC.seq fun K6 hK6=>WC.region (WL.z (vI 0) 5 (WL.k hK6 (WC.block ?_))))));refine WC.loop (fun kk0 ll0 ww0=>∃ (i:Nat),ll0=[(0,vS g1 n n),(1,vS g2 n n),(5,vI (i:Int))]∧kk0=n-i∧(i≤n)∧HP Tr w ww0 []) (n) [(0,vS g1 n n),(1,vS g2 n n),(5,vI 0)] ⟨rfl,rfl,rfl,trivial⟩ ⟨0,rfl,rfl,Nat.zero_le _,hH1⟩ ?_;rintro kk l w8 ⟨i,rfl,hkk,hi,hH9⟩ K7 hK7;refine WC.seq fun K10 hK10=>WC.seq fun K11 hK11=>WC.region (WL.z (vI (i:Int)) 11 (WL.z (vS g1 n n) 12 (WL.z (vI (n:Int)) 13 ?_)));by_cases hlt:(i:Int)<(n:Int)
 ·
  refine WL.y (.bool true) 14 (x_lss rfl rfl rfl (dT (hlt))) (WL.k hK11 ?_);refine WC.yes rfl ?_;refine WC.skip (WQ.then (hK10 _ _ _ (WC.seq fun K12 hK12=>WC.block (WC.seq fun K13 hK13=>?_))));refine WC.still (by kernel_rfl) (by kernel_rfl) ?_;have hH14:=HP.drew hH9;refine WS.z (vS g1 n n) 17 (WS.z (vI (i:Int)) 18 (WS.y (vP g1 i) 19 (x_ix (i) (i) Tryz.underlying26 sz4) (WS.y (.bool (f i)) 20 (x_load rfl rfl Tryz.underlying4 rfl ((HP.oldRange hH14 trivial (h1 i (by omega))) 0 _ rfl)) (WS.z (vS g2 n n) 21 (WS.z (vI (i:Int)) 22 (WS.y (vP g2 i) 23 (x_ix (i) (i) Tryz.underlying26 sz4) (WS.y (.bool (f i)) 24 (x_load rfl rfl Tryz.underlying4 rfl ((HP.oldRange hH14 trivial (h2 i (by omega))) 0 _ rfl)) (WS.y (.bool false) 25 (x_neqb rfl rfl rfl Tryz.underlying4 (by simp)) (WS.nilQ (WQ.then (hK13 _ _ _ ?_)))))))))));refine WC.sb [(0,vS g1 n n),(1,vS g2 n n),(5,vI (i:Int)),(14,.bool true),(25,.bool false)] ?_;refine WC.no rfl ?_;refine WC.skip (WQ.inNormal (WQ.then (hK12 _ _ _ (WC.region (WL.z (vI (i:Int)) 15 (WL.y (vI ((i+1:Nat):Int)) 16 (x_ad (((i+1:Nat):Int))) (WL.z (vI ((i+1:Nat):Int)) 5 (WL.nil (WQ.sb [(0,vS g1 n n),(1,vS g2 n n),(5,vI ((i+1:Nat):Int))] ?_)))))))));refine WQ.then (hK7 _ _ _ (by omega) ⟨i+1,rfl,rfl,by omega,hH14⟩)
 ·
  refine WL.y (.bool false) 14 (x_lss rfl rfl rfl (dF (hlt))) (WL.k hK11 ?_);refine WC.no rfl ?_;refine WC.exit (WQ.thenExit (WQ.thenExit (WQ.inExit (WQ.then (hK5 _ _ _ (WC.seq fun K15 hK15=>WC.region (WL.z (.bool true) 4 (WL.k hK15 ?_))))))));refine WC.ret ?_;refine WQ.ret1 4 rfl rfl ?_;exact⟨rfl,HP.below hH9⟩
theorem bools0_any (w:World) :
    Calls Tryz.prog 10 #[.slice none 0 0,.slice none 0 0] w fun e w'=>e=.returned (.bool true)∧Below w.heap.size w w':=by
  refine calls_of Tryz.func10 rfl (m:=26) rfl [(0,.slice none 0 0),(1,.slice none 0 0)] (Fr_enter [.slice none 0 0,.slice none 0 0] 26 (Nat.le_of_ble_eq_true rfl)) ?_;have hH1:HP Tr w w []:=HP.refl w;refine WC.seq fun K2 hK2=>WC.region (WL.z (.bool false) 4 (WL.k hK2 (WC.seq fun K3 hK3=>WC.seq fun K4 hK4=>WC.region (WL.z (.slice none 0 0) 6 (WL.z (vI 0) 7 (WL.z (.slice none 0 0) 8 ?_))))));refine WL.z (vI 0) 9 (WL.y (.bool false) 10 (x_neq rfl rfl rfl (by decide)) (WL.k hK4 ?_));refine WC.no rfl ?_;refine WC.skip (WQ.then (hK3 _ _ _ (WC.seq fun K5 hK5=>WC.seq fun K6 hK6=>WC.region (WL.z (vI 0) 5 (WL.k hK6 (WC.block ?_))))));refine WC.loop (fun kk0 ll0 ww0=>∃ (i:Nat),ll0=[(0,.slice none 0 0),(1,.slice none 0 0),(5,vI (i:Int))]∧kk0=0-i∧(i≤0)∧HP Tr w ww0 []) (0) [(0,.slice none 0 0),(1,.slice none 0 0),(5,vI 0)] ⟨rfl,rfl,rfl,trivial⟩ ⟨0,rfl,rfl,Nat.zero_le _,hH1⟩ ?_;rintro kk l w8 ⟨i,rfl,hkk,hi,hH9⟩ K7 hK7;refine WC.seq fun K10 hK10=>WC.seq fun K11 hK11=>WC.region (WL.z (vI (i:Int)) 11 (WL.z (.slice none 0 0) 12 (WL.z (vI 0) 13 (WL.y (.bool false) 14 (x_lss rfl rfl rfl (dF (by omega))) (WL.k hK11 ?_)))));refine WC.no rfl ?_;refine WC.exit (WQ.thenExit (WQ.thenExit (WQ.inExit (WQ.then (hK5 _ _ _ (WC.seq fun K12 hK12=>WC.region (WL.z (.bool true) 4 (WL.k hK12 ?_))))))));refine WC.ret ?_;refine WQ.ret1 4 rfl rfl ?_;exact⟨rfl,HP.below hH9⟩
end Ca
end Go.Proofs.YtmjnakhpekbenaaGreat
