/- What the proof of CacheSound stands on, part 3 of 5. -/
import Derived.BigQuiet
import Derived.BigRegion
import Derived.CallsIn
import Derived.ChangeAlike
import Derived.ChangeArms
import Derived.ChangeKeysEq
import Derived.ChangeSlices
import Derived.Deep.AppendLies
import Derived.Deep.CutRange
import Derived.Deep.DeepCutAuto
import Derived.Deep.Heap
import Derived.Deep.LoopGhost
import Derived.Deep.MidRow
import Derived.Deep.QuietTactic
import Derived.Deep.Slices
import Derived.Great.BuildSlice
import Derived.Great.Walk
import Derived.Ground.Names2Prog
import Derived.Ground.SlgnProg
import Derived.Ground.SlsfProg
import Derived.Handy
import Derived.KernelRfl
import Derived.Laws.AppendOwn
import Derived.Laws.AppendOwnNone
import Derived.Laws.CopyRow
import Derived.Laws.MakeOwn
import Derived.Laws.Rows
import Derived.Laws.StructEq
import Derived.Lib.QuietBelow
import Derived.Lib.SliceRun
import Derived.OpenShut
import Derived.Orders
import Derived.OrdersIn
import Derived.RangeFuncFrom
import Derived.RangeFuncLeaves
import Derived.RangeFuncWrites
import Derived.RegionTactic
import Derived.Shelf.SlSortCmp.HeapSortK
import Derived.Shelf.SlSortCmp.InsertionK
import Derived.Shelf.SlSortCmp.MedianK
import Derived.Shelf.SlSortCmp.NoneTotal
import Derived.Shelf.SlSortCmp.PartialInsertionK
import Derived.Shelf.SlSortCmp.PartitionEqualK
import Derived.Shelf.SlSortCmp.PartitionK
import Derived.Shelf.SlSortCmp.PdqK
import Derived.Shelf.SlSortCmp.PivotK
import Derived.Shelf.SlSortCmp.ReverseRangeK
import Derived.Shelf.SlSortCmp.SiftDownK
import Derived.Shelf.Slices.Cells
import Derived.Shelf.Slices.Clone
import Derived.Shelf.Slices.Delete
import Derived.Shelf.Slices.Empties
import Derived.Shelf.Slices.SearchI
import Derived.Shelf.Slices.Turned
import Derived.Shelf.SlicesE.Clone
import Derived.Shelf.SlicesE.Delete
import Derived.Shelf.SlicesQ.Reverse
import Derived.Shelf.Small.Bits
import Derived.Shelf.Small.Wraps
import Derived.Shelf.Strconv.Itoa0
import Derived.Sort.AssemblyPlain
import Derived.Still
import Derived.StillTail
import Derived.TacticsIn
import Derived.Test.YtmjnakhpekbenaaGreatProg
import Derived.WalkKit
import Derived.WalkLawsBesides
import Derived.Test.YtmjnakhpekbenaaGreatCacheSoundB
set_option linter.unusedVariables false
set_option linter.unusedSimpArgs false
namespace Go.Proofs.YtmjnakhpekbenaaGreat
namespace Ca
theorem sT_uniq {t:List T2} (h:sT t) {p q:T2} (hp:p∈t) (hq:q∈t) (e:p.1=q.1):p=q:=by
  obtain⟨i,hi,rfl⟩:=List.mem_iff_getElem.1 hp;obtain⟨j,hj,rfl⟩:=List.mem_iff_getElem.1 hq;have h2:=List.pairwise_iff_getElem.1 h;rcases Nat.lt_trichotomy i j with q1 | q1 | q1
  · have:=h2 i j hi hj q1;omega
  · subst q1;rfl
  · have:=h2 j i hj hi q1;omega
theorem mem_age {t:List T2} (h:sT t) {z a:Int}:(z,a)∈t↔ageT t z=some a:=by
  unfold ageT;constructor
  · intro hm
    cases hf:t.find? (fun p=>p.1==z) with
    | none=>have:=List.find?_eq_none.1 hf _ hm;simp at this
    | some q =>
      have h1:=List.mem_of_find?_eq_some hf;have h2:=List.find?_some hf;have h3:q.1=z:=(by simpa using h2);rw [sT_uniq h h1 hm h3];rfl
  · intro he
    obtain⟨q,hq,rfl⟩:=Option.map_eq_some_iff.1 he;have h1:=List.mem_of_find?_eq_some hq;have h2:=List.find?_some hq;have h3:q.1=z:=(by simpa using h2);subst h3;exact h1
theorem sT_ext:∀ {t u:List T2},sT t→sT u→(∀ p,p∈t↔p∈u)→t=u
  | [],[],_,_,_=>rfl
  | [],q::v,_,_,h=>by have:=(h q).2 (by simp);cases this
  | p::r,[],_,_,h=>by have:=(h p).1 (by simp);cases this
  | p::r,q::v,ht,hu,h=>by
    have t1:=List.pairwise_cons.1 ht;have u1:=List.pairwise_cons.1 hu;have e:p=q:=by
      rcases List.mem_cons.1 ((h p).1 (by simp)) with e | hp
      · exact e
      · rcases List.mem_cons.1 ((h q).2 (by simp)) with e | hq
        · exact e.symm
        · have:=t1.1 q hq;have:=u1.1 p hp;omega
    subst e;rw [sT_ext t1.2 u1.2 fun x=>⟨fun hx=>?_,fun hx=>?_⟩]
    · rcases List.mem_cons.1 ((h x).1 (List.mem_cons_of_mem _ hx)) with e | hx2
      · have:=t1.1 x hx;rw [e] at this;omega
      · exact hx2
    · rcases List.mem_cons.1 ((h x).2 (List.mem_cons_of_mem _ hx)) with e | hx2
      · have:=u1.1 x hx;rw [e] at this;omega
      · exact hx2
theorem age_ext {t u:List T2} (ht:sT t) (hu:sT u) (h:∀ z,ageT t z=ageT u z):t=u :=
  sT_ext ht hu fun p=>by
    obtain⟨z,a⟩:=p;rw [mem_age ht,mem_age hu,h]
theorem VT_mk {s y l m:Int} {t:List T2} (hg:vG s y l m=true) (hs:sT t) (hm:∀ p∈t,(0≤p.1∧p.1≤999)∧0≤p.2∧p.2≤y-1):VT s y l m t:=by
  obtain⟨⟨a1,a2⟩,⟨b1,b2⟩,⟨c1,c2⟩,d1,d2⟩:=vG_iff.1 hg;have hln:∀ i,i<t.length→0≤lnT t i∧lnT t i≤999:=fun i hi=>by rw [lnT_get hi];exact(hm _ (List.getElem_mem hi)).1
  have hge:∀ i,i<t.length→(i:Int)≤lnT t i:=by
    intro i;induction i with
    | zero=>intro h0;exact(hln 0 h0).1
    | succ i ih=>intro h1;have:=ih (by omega);have:=sT_lt hs (show i<i+1 by omega) h1;omega
  refine⟨a1,a2,b1,b2,c1,c2,d1,d2,fun i hi=>by rw [agT_get hi];exact(hm _ (List.getElem_mem hi)).2,hln,hs,?_⟩;by_cases h0:t.length=0
  · omega
  · have:=hge (t.length-1) (by omega);have:=hln (t.length-1) (by omega);omega
theorem VT.mem {s y l m:Int} {t:List T2} (h:VT s y l m t) {p:T2} (hp:p∈t):(0≤p.1∧p.1≤999)∧0≤p.2∧p.2≤y-1:=by
  obtain⟨i,hi,rfl⟩:=List.mem_iff_getElem.1 hp;have h1:=h.ln i hi;have h2:=h.ag i hi;rw [lnT_get hi] at h1;rw [agT_get hi] at h2;exact⟨h1,h2⟩
theorem VT.geo {s y l m:Int} {t:List T2} (h:VT s y l m t):vG s y l m=true:=vG_iff.2 ⟨⟨h.s1,h.s2⟩,⟨h.y1,h.y2⟩,⟨h.l1,h.l2⟩,h.m1,h.m2⟩
theorem VT.nil {s y l m:Int} (hg:vG s y l m=true):VT s y l m []:=VT_mk hg List.Pairwise.nil fun p hp=>by cases hp
theorem VT.age {s y l m:Int} {t:List T2} (h:VT s y l m t) {z a:Int} (ha:ageT t z=some a):(0≤z∧z≤999)∧0≤a∧a≤y-1:=h.mem ((mem_age h.so).2 ha)
def bmp (d a:Int):Int:=if a<d then a+1 else a
def agS (s y x d z a:Int):Option Int:=if z.tmod s=x.tmod s then (if bmp d a<y then some (bmp d a) else none) else (if a<y then some a else none)
def agA (s y x d z:Int) (o:Option Int):Option Int:=if z=x then some 0 else o.bind (agS s y x d z)
theorem mem_opt {c:Prop} [Decidable c] {z b u v:Int}:(z,b)∈(if c then [(u,v)] else ([]:List T2))↔u=z∧(if c then some v else none)=some b:=by
  by_cases h:c
  · rw [if_pos h, if_pos h, List.mem_singleton]
    exact⟨fun e=>by cases e;exact⟨rfl,rfl⟩,fun ⟨e1,e2⟩=>by cases e1;cases e2;rfl⟩
  · rw [if_neg h, if_neg h]
    exact⟨(fun e=>by cases e),(fun e=>by cases e.2)⟩
theorem mem_stE {s y x d:Int} {q:T2} {z b:Int}:(z,b)∈stE s y x d q↔q.1=z∧z≠x∧agS s y x d z q.2=some b:=by
  by_cases h1:q.1=x
  · have e : stE s y x d q = [] := by unfold stE; rw [if_pos h1]
    rw [e];constructor
    · intro h;cases h
    · rintro ⟨e,h2,_⟩;exact absurd (e ▸ h1) h2
  · by_cases h2 : q.1.tmod s = x.tmod s
    · have e : stE s y x d q = if bmp d q.2 < y then [(q.1, bmp d q.2)] else [] := by unfold stE; rw [if_neg h1, if_pos h2]; rfl
      rw [e,mem_opt];constructor
      · rintro ⟨rfl,h⟩;exact⟨rfl,h1,by unfold agS;rw [if_pos h2];exact h⟩
      · rintro ⟨rfl,_,h⟩;exact⟨rfl,by unfold agS at h;rw [if_pos h2] at h;exact h⟩
    · have e : stE s y x d q = if q.2 < y then [(q.1, q.2)] else [] := by unfold stE; rw [if_neg h1, if_neg h2]
      rw [e,mem_opt];constructor
      · rintro ⟨rfl,h⟩;exact⟨rfl,h1,by unfold agS;rw [if_neg h2];exact h⟩
      · rintro ⟨rfl,_,h⟩;exact⟨rfl,by unfold agS at h;rw [if_neg h2] at h;exact h⟩
theorem mem_rL {s y x d:Int} {t:List T2} {z b:Int}:(z,b)∈rL s y x d t↔(z=x∧b=0)∨(z≠x∧∃ a,(z,a)∈t∧agS s y x d z a=some b):=by
  rw [(rL_perm t).mem_iff,List.mem_append,List.mem_flatMap,List.mem_singleton];constructor
  · rintro (⟨⟨q1, q2⟩, hq, h⟩ | h)
    · obtain ⟨rfl, h2, h3⟩ := mem_stE.1 h
      exact .inr ⟨h2,q2,hq,h3⟩
    · exact .inl (Prod.mk.inj h)
  · rintro (⟨rfl, rfl⟩ | ⟨h2, a, ha, h3⟩)
    · exact .inr rfl
    · exact .inl ⟨(z,a),ha,mem_stE.2 ⟨rfl,h2,h3⟩⟩
theorem age_rL {s y x d:Int} {t:List T2} (h:sT t) (z:Int):ageT (rL s y x d t) z=agA s y x d z (ageT t z):=by
  have hs:sT (rL s y x d t):=rL_sorted (s:=s) (y:=y) (x:=x) (d:=d) h;unfold agA;by_cases e:z=x
  · rw [if_pos e,← mem_age hs,mem_rL];exact .inl ⟨e,rfl⟩
  · rw [if_neg e]
    cases ha:ageT t z with
    | none =>
      cases hb:ageT (rL s y x d t) z with
      | none=>rfl
      | some b =>
        rcases mem_rL.1 ((mem_age hs).2 hb) with ⟨e2,_⟩ | ⟨_,a,ha2,h3⟩
        · exact absurd e2 e
        · rw [(mem_age h).1 ha2] at ha;cases ha
    | some a =>
      show _=agS s y x d z a;cases hz:agS s y x d z a with
      | some b=>rw [← mem_age hs,mem_rL];exact .inr ⟨e,a,(mem_age h).2 ha,hz⟩
      | none =>
        cases hb:ageT (rL s y x d t) z with
        | none=>rfl
        | some b =>
          rcases mem_rL.1 ((mem_age hs).2 hb) with ⟨e2,_⟩ | ⟨_,a2,ha2,h3⟩
          · exact absurd e2 e
          · rw [(mem_age h).1 ha2] at ha;cases ha;rw [hz] at h3;cases h3
theorem agS_bd {s y x d z a b:Int} (h:agS s y x d z a=some b) (ha:0≤a):a≤b∧b≤a+1∧b≤y-1:=by
  have hb:a≤bmp d a∧bmp d a≤a+1:=(by unfold bmp;split <;> omega);unfold agS at h;generalize bmp d a=e at h hb;split at h
  · split at h
    · cases h;omega
    · cases h
  · split at h
    · cases h;omega
    · cases h
theorem agA_bd {s y x d z:Int} {o:Option Int} {b:Int} (hy:1≤y) (h:agA s y x d z o=some b) (ho:∀ a,o=some a→0≤a):0≤b∧b≤y-1∧(z=x∨∃ a,o=some a):=by
  unfold agA at h;split at h
  · next e=>cases h;exact⟨by omega,by omega,.inl e⟩
  · cases o with
    | none=>cases h
    | some a =>
      have h0:=ho a rfl;have:=agS_bd (show agS s y x d z a=some b from h) h0;exact⟨by omega,by omega,.inr ⟨a,rfl⟩⟩
theorem VT_tc {s y l m x k:Int} {t:List T2} (h:VT s y l m t) (hx:0≤x∧x≤999):VT s y l m (tcH s y x k t):=by
  have hs:sT (tcH s y x k t):=rL_sorted h.so;refine VT_mk h.geo hs fun p hp=>?_;obtain⟨z,b⟩:=p;have ha:=(mem_age hs).1 hp;unfold tcH at ha;rw [age_rL h.so] at ha;obtain⟨q1,q2,q3⟩:=agA_bd h.y1 ha fun a e=>(h.age e).2.1;refine⟨?_,q1,q2⟩;rcases q3 with e | ⟨a,e⟩
  · show 0≤z∧z≤999;omega
  · exact(h.age e).1
theorem mem_jM {t u:List T2} {z b:Int}:(z,b)∈jM t u↔∃ a c,(z,a)∈t∧ageT u z=some c∧b=max a c:=by
  unfold jM;rw [List.mem_flatMap];constructor
  · rintro ⟨⟨q1, q2⟩, hq, h⟩
    unfold jm1 at h;cases hc:ageT u q1 with
    | none=>simp only [hc] at h;cases h
    | some c =>
      simp only [hc] at h;obtain⟨rfl,rfl⟩:=Prod.mk.inj (List.mem_singleton.1 h);exact⟨q2,c,hq,hc,rfl⟩
  · rintro ⟨a, c, ha, hc, rfl⟩
    exact⟨(z,a),ha,by unfold jm1;simp [hc]⟩
theorem jM_sorted {t u:List T2} (h:sT t):sT (jM t u):=by
  induction t with
  | nil=>exact List.Pairwise.nil
  | cons p r ih =>
    obtain⟨h1,h2⟩:=List.pairwise_cons.1 h;have e:jM (p::r) u=jm1 u p++jM r u:=rfl;have hx:∀ a∈jm1 u p,a.1=p.1:=fun a ha=>by
      unfold jm1 at ha;split at ha
      · rw [List.mem_singleton.1 ha]
      · cases ha
    rw [e];refine List.pairwise_append.2 ⟨?_,ih h2,fun a ha b hb=>?_⟩
    · unfold jm1; split
      · exact List.pairwise_singleton _ _
      · exact List.Pairwise.nil
    · obtain ⟨z, c⟩ := b
      obtain⟨a',c',ha',_,_⟩:=mem_jM.1 hb;have:=h1 _ ha';rw [hx a ha];exact this
theorem age_jM {t u:List T2} (ht:sT t) (z:Int):ageT (jM t u) z=match ageT t z,ageT u z with | some a,some c=>some (max a c) | _,_=>none:=by
  have hs:=jM_sorted (u:=u) ht;cases ha:ageT t z with
  | none =>
    cases hb:ageT (jM t u) z with
    | none=>rfl
    | some b =>
      obtain⟨a,c,h1,_,_⟩:=mem_jM.1 ((mem_age hs).2 hb);rw [(mem_age ht).1 h1] at ha;cases ha
  | some a =>
    cases hc:ageT u z with
    | none =>
      cases hb:ageT (jM t u) z with
      | none=>rfl
      | some b =>
        obtain⟨a,c,h1,h2,_⟩:=mem_jM.1 ((mem_age hs).2 hb);rw [hc] at h2;cases h2
    | some c=>exact(mem_age hs).1 (mem_jM.2 ⟨a,c,(mem_age ht).2 ha,hc,rfl⟩)
theorem VT_jM {s y l m:Int} {t u:List T2} (ht:VT s y l m t) (hu:VT s y l m u):VT s y l m (jM t u):=by
  refine VT_mk ht.geo (jM_sorted ht.so) fun p hp=>?_;obtain⟨z,b⟩:=p;obtain⟨a,c,h1,h2,rfl⟩:=mem_jM.1 hp;have q1:=ht.mem h1;have q2:=hu.age h2;simp only [] at q1;refine⟨q1.1,?_,?_⟩
  · show 0≤max a c;omega
  · show max a c≤y-1;omega
theorem mem_rJ (may:Bool):∀ (t u:List T2),sT t→sT u→(∀ z b,(z,b)∈rJ may t u↔((∃ a c,(z,a)∈t∧(z,c)∈u∧b=bif may then min a c else max a c)∨(may=true∧(z,b)∈t∧∀ c,(z,c) ∉ u)∨(may=true∧(z,b)∈u∧∀ a,(z,a) ∉ t)))∧sT (rJ may t u)∧(∀ p∈rJ may t u,(∃ a,(p.1,a)∈t)∨∃ c,(p.1,c)∈u)
  | [],[],_,_=>by
    rw [rJ];exact⟨fun z b=>by simp,List.Pairwise.nil,fun p hp=>by cases hp⟩
  | p::r,[],ht,hu=>by
    obtain⟨h1,h2⟩:=List.pairwise_cons.1 ht;obtain⟨i1,i2,i3⟩:=mem_rJ may r [] h2 hu;rw [rJ];cases may with
    | false =>
      simp only [cond_false,List.nil_append] at i1 i2 i3 ⊢;refine⟨fun z b=>by rw [i1];simp,i2,fun q hq=>?_⟩;rcases i3 q hq with ⟨a,ha⟩ | ⟨c,hc⟩
      · exact .inl ⟨a,List.mem_cons_of_mem _ ha⟩
      · cases hc
    | true =>
      simp only [cond_true] at i1 i2 i3 ⊢;refine⟨fun z b=>by rw [List.mem_append,i1];simp,List.pairwise_append.2 ⟨List.pairwise_singleton _ _,i2,fun a ha b hb=>?_⟩,fun q hq=>?_⟩
      · obtain rfl := List.mem_singleton.1 ha
        rcases i3 b hb with ⟨a',ha'⟩ | ⟨c,hc⟩
        · exact h1 (b.1,a') ha'
        · cases hc
      · rcases List.mem_append.1 hq with hq | hq
        · obtain rfl := List.mem_singleton.1 hq
          exact .inl ⟨q.2,by simp⟩
        · rcases i3 q hq with ⟨a, ha⟩ | ⟨c, hc⟩
          · exact .inl ⟨a,List.mem_cons_of_mem _ ha⟩
          · cases hc
  | [],q::v,ht,hu=>by
    obtain⟨h1,h2⟩:=List.pairwise_cons.1 hu;obtain⟨i1,i2,i3⟩:=mem_rJ may [] v ht h2;rw [rJ];cases may with
    | false =>
      simp only [cond_false,List.nil_append] at i1 i2 i3 ⊢;refine⟨fun z b=>by rw [i1];simp,i2,fun x hx=>?_⟩;rcases i3 x hx with ⟨a,ha⟩ | ⟨c,hc⟩
      · cases ha
      · exact .inr ⟨c,List.mem_cons_of_mem _ hc⟩
    | true =>
      simp only [cond_true] at i1 i2 i3 ⊢;refine⟨fun z b=>by rw [List.mem_append,i1];simp,List.pairwise_append.2 ⟨List.pairwise_singleton _ _,i2,fun a ha b hb=>?_⟩,fun x hx=>?_⟩
      · obtain rfl := List.mem_singleton.1 ha
        rcases i3 b hb with ⟨a',ha'⟩ | ⟨c,hc⟩
        · cases ha'
        · exact h1 (b.1,c) hc
      · rcases List.mem_append.1 hx with hx | hx
        · obtain rfl := List.mem_singleton.1 hx
          exact .inr ⟨x.2,by simp⟩
        · rcases i3 x hx with ⟨a, ha⟩ | ⟨c, hc⟩
          · cases ha
          · exact .inr ⟨c,List.mem_cons_of_mem _ hc⟩
  | p::r,q::v,ht,hu=>by
    obtain⟨h1,h2⟩:=List.pairwise_cons.1 ht;obtain⟨g1,g2⟩:=List.pairwise_cons.1 hu;rw [rJ];by_cases e1:p.1<q.1
    · rw [if_pos e1]
      obtain⟨i1,i2,i3⟩:=mem_rJ may r (q::v) h2 hu;have np:∀ c,(p.1,c) ∉ q::v:=fun c hc=>by
        rcases List.mem_cons.1 hc with e | hc
        · rw [← e] at e1;exact absurd e1 (Int.lt_irrefl _)
        · have:=g1 _ hc;simp only [] at this;omega
      have nr:∀ a,(p.1,a) ∉ r:=fun a ha=>by have:=h1 _ ha;simp only [] at this;omega
      have i4:∀ x∈rJ may r (q::v),p.1<x.1:=fun x hx=>by
        rcases i3 x hx with ⟨a,ha⟩ | ⟨c,hc⟩
        · exact h1 (x.1,a) ha
        · rcases List.mem_cons.1 hc with e | hc
          · rw [← e] at e1;exact e1
          · have:=g1 _ hc;simp only [] at this;omega
      refine⟨fun z b=>?_,?_,fun x hx=>?_⟩
      · rw [List.mem_append, i1]
        constructor
        · rintro (h | ⟨a, c, ha, hc, hb⟩ | ⟨hm, hb, hc⟩ | ⟨hm, hb, ha⟩)
          · cases may with
            | false=>cases h
            | true =>
              have e:=List.mem_singleton.1 h;have e':z=p.1:=(by rw [← e]);refine .inr (.inl ⟨rfl,by rw [e];simp,fun c hc=>np c (e' ▸ hc)⟩)
          · exact .inl ⟨a,c,List.mem_cons_of_mem _ ha,hc,hb⟩
          · exact .inr (.inl ⟨hm,List.mem_cons_of_mem _ hb,hc⟩)
          · refine .inr (.inr ⟨hm, hb, fun a ha' => ?_⟩)
            rcases List.mem_cons.1 ha' with e | ha'
            · have e' : z = p.1 := by rw [← e]
              exact np b (e' ▸ hb)
            · exact ha a ha'
        · rintro (⟨a, c, ha, hc, hb⟩ | ⟨hm, hb, hc⟩ | ⟨hm, hb, ha⟩)
          · rcases List.mem_cons.1 ha with e | ha
            · have e' : z = p.1 := by rw [← e]
              exact absurd (e' ▸ hc) (np c)
            · exact .inr (.inl ⟨a,c,ha,hc,hb⟩)
          · rcases List.mem_cons.1 hb with e | hb
            · refine .inl ?_
              rw [hm,e];simp
            · exact .inr (.inr (.inl ⟨hm,hb,hc⟩))
          · exact .inr (.inr (.inr ⟨hm,hb,fun a ha'=>ha a (List.mem_cons_of_mem _ ha')⟩))
      · refine List.pairwise_append.2 ⟨?_, i2, fun a ha b hb => ?_⟩
        · cases may
          · exact List.Pairwise.nil
          · exact List.pairwise_singleton _ _
        · cases may with
          | false=>cases ha
          | true=>rw [List.mem_singleton.1 ha];exact i4 b hb
      · rcases List.mem_append.1 hx with h | h
        · cases may with
          | false=>cases h
          | true=>rw [List.mem_singleton.1 h];exact .inl ⟨p.2,by simp⟩
        · rcases i3 x h with ⟨a, ha⟩ | hc
          · exact .inl ⟨a,List.mem_cons_of_mem _ ha⟩
          · exact .inr hc
    · rw [if_neg e1]
      by_cases e2:q.1<p.1
      · rw [if_pos e2]
        obtain⟨i1,i2,i3⟩:=mem_rJ may (p::r) v ht g2;have nq:∀ a,(q.1,a) ∉ p::r:=fun a ha=>by
          rcases List.mem_cons.1 ha with e | ha
          · rw [← e] at e2;exact absurd e2 (Int.lt_irrefl _)
          · have:=h1 _ ha;simp only [] at this;omega
        have i4:∀ x∈rJ may (p::r) v,q.1<x.1:=fun x hx=>by
          rcases i3 x hx with ⟨a,ha⟩ | ⟨c,hc⟩
          · rcases List.mem_cons.1 ha with e | ha
            · rw [← e] at e2;exact e2
            · have:=h1 _ ha;simp only [] at this;omega
          · exact g1 (x.1,c) hc
        refine⟨fun z b=>?_,?_,fun x hx=>?_⟩
        · rw [List.mem_append, i1]
          constructor
          · rintro (h | ⟨a, c, ha, hc, hb⟩ | ⟨hm, hb, hc⟩ | ⟨hm, hb, ha⟩)
            · cases may with
              | false=>cases h
              | true =>
                have e:=List.mem_singleton.1 h;have e':z=q.1:=(by rw [← e]);refine .inr (.inr ⟨rfl,by rw [e];simp,fun a ha=>nq a (e' ▸ ha)⟩)
            · exact .inl ⟨a,c,ha,List.mem_cons_of_mem _ hc,hb⟩
            · refine .inr (.inl ⟨hm, hb, fun c hc' => ?_⟩)
              rcases List.mem_cons.1 hc' with e | hc'
              · have e' : z = q.1 := by rw [← e]
                exact nq b (e' ▸ hb)
              · exact hc c hc'
            · exact .inr (.inr ⟨hm,List.mem_cons_of_mem _ hb,ha⟩)
          · rintro (⟨a, c, ha, hc, hb⟩ | ⟨hm, hb, hc⟩ | ⟨hm, hb, ha⟩)
            · rcases List.mem_cons.1 hc with e | hc
              · have e' : z = q.1 := by rw [← e]
                exact absurd (e' ▸ ha) (nq a)
              · exact .inr (.inl ⟨a,c,ha,hc,hb⟩)
            · exact .inr (.inr (.inl ⟨hm,hb,fun c hc'=>hc c (List.mem_cons_of_mem _ hc')⟩))
            · rcases List.mem_cons.1 hb with e | hb
              · refine .inl ?_
                rw [hm,e];simp
              · exact .inr (.inr (.inr ⟨hm,hb,ha⟩))
        · refine List.pairwise_append.2 ⟨?_, i2, fun a ha b hb => ?_⟩
          · cases may
            · exact List.Pairwise.nil
            · exact List.pairwise_singleton _ _
          · cases may with
            | false=>cases ha
            | true=>rw [List.mem_singleton.1 ha];exact i4 b hb
        · rcases List.mem_append.1 hx with h | h
          · cases may with
            | false=>cases h
            | true=>rw [List.mem_singleton.1 h];exact .inr ⟨q.2,by simp⟩
          · rcases i3 x h with ha | ⟨c, hc⟩
            · exact .inl ha
            · exact .inr ⟨c,List.mem_cons_of_mem _ hc⟩
      · rw [if_neg e2]
        have e:p.1=q.1:=(by omega);obtain⟨i1,i2,i3⟩:=mem_rJ may r v h2 g2;have nr:∀ a,(p.1,a) ∉ r:=fun a ha=>by have:=h1 _ ha;simp only [] at this;omega
        have nv:∀ c,(p.1,c) ∉ v:=fun c hc=>by have:=g1 _ hc;simp only [] at this;omega
        have i4:∀ x∈rJ may r v,p.1<x.1:=fun x hx=>by
          rcases i3 x hx with ⟨a,ha⟩ | ⟨c,hc⟩
          · exact h1 (x.1,a) ha
          · have:=g1 _ hc;simp only [] at this;omega
        refine⟨fun z b=>?_,List.pairwise_cons.2 ⟨i4,i2⟩,fun x hx=>?_⟩
        · rw [List.mem_cons, i1]
          constructor
          · rintro (h | ⟨a, c, ha, hc, hb⟩ | ⟨hm, hb, hc⟩ | ⟨hm, hb, ha⟩)
            · obtain ⟨rfl, rfl⟩ := Prod.mk.inj h
              exact .inl ⟨p.2,q.2,by simp,by rw [e];simp,rfl⟩
            · exact .inl ⟨a,c,List.mem_cons_of_mem _ ha,List.mem_cons_of_mem _ hc,hb⟩
            · refine .inr (.inl ⟨hm, List.mem_cons_of_mem _ hb, fun c hc' => ?_⟩)
              rcases List.mem_cons.1 hc' with e' | hc'
              · have e3 : z = p.1 := by rw [e, ← e']
                exact nr b (e3 ▸ hb)
              · exact hc c hc'
            · refine .inr (.inr ⟨hm, List.mem_cons_of_mem _ hb, fun a ha' => ?_⟩)
              rcases List.mem_cons.1 ha' with e' | ha'
              · have e3 : z = p.1 := by rw [← e']
                exact nv b (e3 ▸ hb)
              · exact ha a ha'
          · rintro (⟨a, c, ha, hc, hb⟩ | ⟨hm, hb, hc⟩ | ⟨hm, hb, ha⟩)
            · rcases List.mem_cons.1 ha with e' | ha
              · have e3 : z = p.1 := by rw [← e']
                subst e3;rcases List.mem_cons.1 hc with e4 | hc
                · left
                  rw [hb,← e',← e4]
                · exact absurd hc (nv c)
              · rcases List.mem_cons.1 hc with e4 | hc
                · have e3 : z = p.1 := by rw [e, ← e4]
                  exact absurd (e3 ▸ ha) (nr a)
                · exact .inr (.inl ⟨a,c,ha,hc,hb⟩)
            · rcases List.mem_cons.1 hb with e' | hb
              · have e3 : z = q.1 := by rw [← e, ← e']
                exact absurd (by rw [e3];simp) (hc q.2)
              · exact .inr (.inr (.inl ⟨hm,hb,fun c hc'=>hc c (List.mem_cons_of_mem _ hc')⟩))
            · rcases List.mem_cons.1 hb with e' | hb
              · have e3 : z = p.1 := by rw [e, ← e']
                exact absurd (by rw [e3];simp) (ha p.2)
              · exact .inr (.inr (.inr ⟨hm,hb,fun a ha'=>ha a (List.mem_cons_of_mem _ ha')⟩))
        · rcases List.mem_cons.1 hx with rfl | hx
          · exact .inl ⟨p.2,by simp⟩
          · rcases i3 x hx with ⟨a, ha⟩ | ⟨c, hc⟩
            · exact .inl ⟨a,List.mem_cons_of_mem _ ha⟩
            · exact .inr ⟨c,List.mem_cons_of_mem _ hc⟩
termination_by t u=>t.length+u.length
end Ca
end Go.Proofs.YtmjnakhpekbenaaGreat
namespace Go.Proofs.YtmjnakhpekbenaaGreat
open Fw
namespace Ca
def mO:Option Int→Option Int→Option Int
  | some a,some c=>some (min a c)
  | some a,none=>some a
  | none,o=>o
theorem mO_assoc (a b c:Option Int):mO (mO a b) c=mO a (mO b c):=by
  cases a <;> cases b <;> cases c <;> simp [mO,Int.min_assoc]
theorem age_rJ {t u:List T2} (ht:sT t) (hu:sT u) (z:Int):ageT (rJ true t u) z=mO (ageT t z) (ageT u z):=by
  obtain⟨h1,h2,_⟩:=mem_rJ true t u ht hu;have k1:∀ a,(z,a)∈t↔ageT t z=some a:=fun a=>mem_age ht;have k2:∀ a,(z,a)∈u↔ageT u z=some a:=fun a=>mem_age hu;have hx:∀ b,ageT (rJ true t u) z=some b↔mO (ageT t z) (ageT u z)=some b:=fun b=>by
    rw [← mem_age h2,h1];simp only [k1,k2];cases e1:ageT t z <;> cases e2:ageT u z <;> simp [mO,eq_comm]
  cases e:mO (ageT t z) (ageT u z) with
  | none =>
    cases e2:ageT (rJ true t u) z with
    | none=>rfl
    | some b=>rw [(hx b).1 e2] at e;cases e
  | some b=>exact(hx b).2 e
theorem sT_rJ {t u:List T2} (ht:sT t) (hu:sT u):sT (rJ true t u):=(mem_rJ true t u ht hu).2.1
theorem VT_rJ {s y l m:Int} {t u:List T2} (ht:VT s y l m t) (hu:VT s y l m u):VT s y l m (rJ true t u) :=
  VT_mk ht.geo (sT_rJ ht.so hu.so) fun p hp=>by
    obtain⟨z,b⟩:=p;have h:=(mem_age (sT_rJ ht.so hu.so)).1 hp;rw [age_rJ ht.so hu.so] at h;cases e1:ageT t z with
    | none =>
      rw [e1] at h;exact hu.age (show ageT u z=some b from h)
    | some a =>
      cases e2:ageT u z with
      | none=>rw [e1,e2] at h;cases h;exact ht.age e1
      | some c =>
        rw [e1,e2] at h;cases h;obtain⟨h1,h2,h3⟩:=ht.age e1;obtain⟨h4,h5,h6⟩:=hu.age e2;exact⟨h1,by show 0≤min a c;omega,by show min a c≤_;omega⟩
theorem sT_one (x:T2):sT [x]:=List.pairwise_singleton _ _
theorem age_one (x:T2) (z:Int):ageT [x] z=if z=x.1 then some x.2 else none:=by
  unfold ageT;by_cases h:z=x.1
  · subst h;simp
  · have h2 : ¬ x.1 = z := fun e => h e.symm
    simp [h,h2]
theorem age_snoc {u:List T2} {x:T2} (h:sT (u++[x])) (z:Int):ageT (u++[x]) z=mO (ageT u z) (ageT [x] z):=by
  obtain⟨h1,h2,h3⟩:=List.pairwise_append.1 h;rw [age_one];unfold ageT;rw [List.find?_append];by_cases e:z=x.1
  · subst e
    have hn:u.find? (fun p=>p.1==x.1)=none:=List.find?_eq_none.2 fun p hp=>by
      have:=h3 p hp x (by simp);simp;omega
    rw [hn];simp [mO]
  · have h2' : ¬ x.1 = z := fun e' => e e'.symm
    cases u.find? (fun p=>p.1==z) <;> simp [e,h2',mO]
theorem rJ_snoc {t u:List T2} {x:T2} (ht:sT t) (h:sT (u++[x])):rJ true t (u++[x])=rJ true (rJ true t u) [x]:=by
  have hu:sT u:=(List.pairwise_append.1 h).1;refine age_ext (sT_rJ ht h) (sT_rJ (sT_rJ ht hu) (sT_one x)) fun z=>?_;rw [age_rJ ht h,age_snoc h,age_rJ (sT_rJ ht hu) (sT_one x),age_rJ ht hu,mO_assoc]
def insT (A:List T2) (k:Nat) (x:T2):List T2:=A.take k++x::A.drop k
theorem insT_len {A:List T2} {k:Nat} {x:T2} (h:k≤A.length):(insT A k x).length=A.length+1:=by unfold insT;simp;omega
theorem set_rJ {A:List T2} {k:Nat} {x:T2} (hA:sT A) (hk:k<A.length) (he:lnT A k=x.1):A.set k (x.1,min (agT A k) x.2)=rJ true A [x]:=by
  have e0:A[k].1=x.1:=(by rw [← lnT_get hk];exact he);have hs:sT (A.set k (x.1,min (agT A k) x.2)):=by
    refine List.pairwise_iff_getElem.2 fun i j hi hj hij=>?_;have hi':i<A.length:=(by simpa using hi);have hj':j<A.length:=(by simpa using hj);have h1:=List.pairwise_iff_getElem.1 hA i j hi' hj' hij;rw [List.getElem_set,List.getElem_set];split <;> split
    · omega
    · rename_i q _;subst q;show x.1<_;omega
    · rename_i _ q;subst q;show _<x.1;omega
    · exact h1
  refine sT_ext hs (sT_rJ hA (sT_one x)) fun p=>?_;obtain⟨z,b⟩:=p;rw [(mem_rJ true A [x] hA (sT_one x)).1];have ha:(x.1,agT A k)∈A:=(by rw [← he,lnT_get hk,agT_get hk];exact List.getElem_mem hk);constructor
  · intro h
    obtain⟨i,hi,e⟩:=List.mem_iff_getElem.1 h;have hi':i<A.length:=(by simpa using hi);rw [List.getElem_set] at e;split at e
    · cases e
      exact .inl ⟨agT A k,x.2,ha,by simp,rfl⟩
    · rename_i q
      have hz:(z,b)∈A:=(by rw [← e];exact List.getElem_mem hi');refine .inr (.inl ⟨rfl,hz,fun c hc=>?_⟩);have hc':z=x.1:=(by have:=List.mem_singleton.1 hc;rw [← this]);have h2:=List.pairwise_iff_getElem.1 hA;have e1:A[i].1=A[k].1:=(by rw [e,e0];exact hc');rcases Nat.lt_trichotomy i k with q1 | q1 | q1
      · have:=h2 i k hi' hk q1;omega
      · exact q q1.symm
      · have:=h2 k i hk hi' q1;omega
  · rintro (⟨a, c, ha2, hc, hb⟩ | ⟨-, hb, hc⟩ | ⟨-, hb, hn⟩)
    · have hc' := List.mem_singleton.1 hc
      have hz:z=x.1:=(by rw [← hc']);subst hz;have hca:c=x.2:=(by rw [← hc']);have hag:=(mem_age hA).1 ha;have hag2:=(mem_age hA).1 ha2;rw [hag] at hag2;cases hag2;rw [hb,hca];exact List.mem_iff_getElem.2 ⟨k,by simpa using hk,by simp⟩
    · obtain ⟨i, hi, e⟩ := List.mem_iff_getElem.1 hb
      have hik:k≠i:=fun q=>hc x.2 (by subst q;rw [e] at e0;rw [show z=x.1 from e0];simp);exact List.mem_iff_getElem.2 ⟨i,by simpa using hi,by rw [List.getElem_set_ne hik];exact e⟩
    · have hz : z = x.1 := by have := List.mem_singleton.1 hb; rw [← this]
      exact absurd (hz ▸ ha) (hn _)
theorem ins_rJ {A:List T2} {k:Nat} {x:T2} (hA:sT A) (hk:k≤A.length) (h1:0<k→lnT A (k-1)<x.1) (h2:k<A.length→x.1<lnT A k):insT A k x=rJ true A [x]:=by
  have hlt:∀ p∈A.take k,p.1<x.1:=fun p hp=>by
    obtain⟨i,hi,rfl⟩:=List.mem_iff_getElem.1 hp;have hi':i<k∧i<A.length:=(by simp at hi;omega);rw [List.getElem_take,← lnT_get hi'.2];by_cases e:i=k-1
    · rw [e];exact h1 (by omega)
    · have:=sT_lt hA (show i<k-1 by omega) (by omega);have:=h1 (by omega);omega
  have hgt:∀ p∈A.drop k,x.1<p.1:=fun p hp=>by
    obtain⟨i,hi,rfl⟩:=List.mem_iff_getElem.1 hp;have hi':k+i<A.length:=(by simp at hi;omega);rw [List.getElem_drop,← lnT_get hi'];by_cases e:i=0
    · subst e;exact h2 (by omega)
    · have:=sT_lt hA (show k<k+i by omega) hi';have:=h2 (by omega);omega
  have hs:sT (insT A k x):=by
    refine List.pairwise_append.2 ⟨List.Pairwise.sublist (List.take_sublist k A) hA,List.pairwise_cons.2 ⟨hgt,List.Pairwise.sublist (List.drop_sublist k A) hA⟩,fun a ha c hc=>?_⟩;rcases List.mem_cons.1 hc with rfl | hc
    · exact hlt a ha
    · have:=hlt a ha;have:=hgt c hc;omega
  have hno:∀ a,(x.1,a) ∉ A:=fun a ha=>by
    rw [← List.take_append_drop k A] at ha;rcases List.mem_append.1 ha with h | h
    · have:=hlt _ h;simp only [] at this;omega
    · have:=hgt _ h;simp only [] at this;omega
  refine sT_ext hs (sT_rJ hA (sT_one x)) fun p=>?_;obtain⟨z,b⟩:=p;rw [(mem_rJ true A [x] hA (sT_one x)).1];have hm:∀ p,p∈insT A k x↔p∈A∨p=x:=fun p=>by
    unfold insT;rw [List.mem_append,List.mem_cons];constructor
    · rintro (h | h | h)
      · exact .inl (List.mem_of_mem_take h)
      · exact .inr h
      · exact .inl (List.mem_of_mem_drop h)
    · rintro (h | h)
      · rw [← List.take_append_drop k A] at h
        rcases List.mem_append.1 h with h | h
        · exact .inl h
        · exact .inr (.inr h)
      · exact .inr (.inl h)
  rw [hm];constructor
  · rintro (h | h)
    · refine .inr (.inl ⟨rfl, h, fun c hc => ?_⟩)
      have hz:z=x.1:=(by have:=List.mem_singleton.1 hc;rw [← this]);exact hno b (hz ▸ h)
    · exact .inr (.inr ⟨rfl,by rw [h];simp,fun a ha=>hno a (by rw [← h];exact ha)⟩)
  · rintro (⟨a, c, ha, hc, hb⟩ | ⟨-, hb, hc⟩ | ⟨-, hb, hn⟩)
    · have hz : z = x.1 := by have := List.mem_singleton.1 hc; rw [← this]
      exact absurd (hz ▸ ha) (hno a)
    · exact .inl hb
    · exact .inr (List.mem_singleton.1 hb)
def leM (a b:List T2):Prop:=∀ z c,ageT b z=some c→∃ a',ageT a z=some a'∧a'≤c
def leN (a b:List T2):Prop:=∀ z c,ageT a z=some c→∃ c',ageT b z=some c'∧c'≤c
def muM (y:Int) (t:List T2):Nat:=((List.range 1000).map fun z=>match ageT t ((z:Nat):Int) with | some a=>(y-a).toNat | none=>0).sum
def muN (y:Int) (t:List T2):Nat:=((List.range 1000).map fun z=>((ageT t ((z:Nat):Int)).getD y).toNat).sum
theorem sum_le {f g:Nat→Nat}:∀ {n:Nat},(∀ i,i<n→f i≤g i)→((List.range n).map f).sum≤((List.range n).map g).sum
  | 0,_=>Nat.le_refl _
  | n+1,h=>by
    rw [List.range_succ,List.map_append,List.map_append,List.sum_append,List.sum_append];have:=sum_le (f:=f) (g:=g) (n:=n) fun i hi=>h i (by omega);have:=h n (by omega);simp;omega
theorem sum_lt {f g:Nat→Nat} {v:Nat}:∀ {n:Nat},v<n→(∀ i,i<n→f i≤g i)→f v<g v→((List.range n).map f).sum<((List.range n).map g).sum
  | 0,h,_,_=>by omega
  | n+1,hv,h,hl=>by
    rw [List.range_succ,List.map_append,List.map_append,List.sum_append,List.sum_append];by_cases e:v=n
    · subst e
      have:=sum_le (f:=f) (g:=g) (n:=v) fun i hi=>h i (by omega);simp;omega
    · have := sum_lt (f := f) (g := g) (v := v) (n := n) (by omega) (fun i hi => h i (by omega)) hl
      have:=h n (by omega);simp;omega
def opsM (s y l:Int):Fl.Ops (List T2):=⟨jM,fun i t=>tcH s y ((i:Int)/l) 0 t,muM y⟩
def opsN (s y l:Int):Fl.Ops (List T2):=⟨rJ true,fun i t=>tcH s y ((i:Int)/l) 1 t,muN y⟩
section
variable {s y l m : Int}
theorem ln_bd (hg:vG s y l m=true) {i:Nat} (hi:i<1000):0≤(i:Int)/l∧(i:Int)/l≤999:=by
  obtain⟨-,-,⟨c1,c2⟩,-⟩:=vG_iff.1 hg;exact⟨Int.ediv_nonneg (by omega) (by omega),Int.le_trans (Int.ediv_le_self _ (by omega)) (by omega)⟩
theorem age_tc {t:List T2} (h:VT s y l m t) (x k z:Int):ageT (tcH s y x k t) z=agA s y x ((ageT t x).getD y+k) z (ageT t z):=age_rL h.so z
theorem leM_refl (a:List T2):leM a a:=fun z c h=>⟨c,h,Int.le_refl _⟩
theorem leN_refl (a:List T2):leN a a:=fun z c h=>⟨c,h,Int.le_refl _⟩
theorem leM_trans {a b c:List T2} (h1:leM a b) (h2:leM b c):leM a c:=fun z x hx=>by
  obtain⟨x1,g1,g2⟩:=h2 z x hx;obtain⟨x2,g3,g4⟩:=h1 z x1 g1;exact⟨x2,g3,by omega⟩
theorem leN_trans {a b c:List T2} (h1:leN a b) (h2:leN b c):leN a c:=fun z x hx=>by
  obtain⟨x1,g1,g2⟩:=h1 z x hx;obtain⟨x2,g3,g4⟩:=h2 z x1 g1;exact⟨x2,g3,by omega⟩
theorem le_ages {a b:List T2} (h1:∀ z c,ageT b z=some c→∃ a',ageT a z=some a'∧a'≤c) (h2:∀ z c,ageT a z=some c→∃ a',ageT b z=some a'∧a'≤c) (z:Int):ageT a z=ageT b z:=by
  cases e1:ageT a z with
  | none =>
    cases e2:ageT b z with
    | none=>rfl
    | some c=>obtain⟨a',g,_⟩:=h1 z c e2;rw [e1] at g;cases g
  | some c =>
    obtain⟨a',g,g2⟩:=h2 z c e1;obtain⟨a2,g3,g4⟩:=h1 z a' g;rw [e1] at g3;cases g3;rw [g];congr 1;omega
theorem leM_anti {a b:List T2} (ha:sT a) (hb:sT b) (h1:leM a b) (h2:leM b a):a=b:=age_ext ha hb (le_ages h1 h2)
theorem leN_anti {a b:List T2} (ha:sT a) (hb:sT b) (h1:leN a b) (h2:leN b a):a=b:=age_ext ha hb (le_ages h2 h1)
theorem jM_left {a b:List T2} (ha:sT a):leM a (jM a b):=fun z c h=>by
  rw [age_jM ha] at h;cases e1:ageT a z with
  | none=>rw [e1] at h;cases h
  | some x =>
    cases e2:ageT b z with
    | none=>rw [e1,e2] at h;cases h
    | some x2=>rw [e1,e2] at h;cases h;exact⟨x,rfl,by omega⟩
theorem jM_right {a b:List T2} (ha:sT a):leM b (jM a b):=fun z c h=>by
  rw [age_jM ha] at h;cases e1:ageT a z with
  | none=>rw [e1] at h;cases h
  | some x =>
    cases e2:ageT b z with
    | none=>rw [e1,e2] at h;cases h
    | some x2=>rw [e1,e2] at h;cases h;exact⟨x2,rfl,by omega⟩
theorem jM_lub {a b c:List T2} (ha:sT a) (h1:leM a c) (h2:leM b c):leM (jM a b) c:=fun z x hx=>by
  obtain⟨x1,g1,g2⟩:=h1 z x hx;obtain⟨x2,g3,g4⟩:=h2 z x hx;exact⟨max x1 x2,by rw [age_jM ha,g1,g3],by omega⟩
theorem rJ_left {a b:List T2} (ha:sT a) (hb:sT b):leN a (rJ true a b):=fun z c h=>by
  rw [age_rJ ha hb,h];cases e2:ageT b z with
  | none=>exact⟨c,rfl,Int.le_refl _⟩
  | some x=>exact⟨min c x,rfl,by omega⟩
theorem rJ_right {a b:List T2} (ha:sT a) (hb:sT b):leN b (rJ true a b):=fun z c h=>by
  rw [age_rJ ha hb,h];cases e2:ageT a z with
  | none=>exact⟨c,rfl,Int.le_refl _⟩
  | some x=>exact⟨min x c,rfl,by omega⟩
theorem rJ_lub {a b c:List T2} (ha:sT a) (hb:sT b) (h1:leN a c) (h2:leN b c):leN (rJ true a b) c:=fun z x hx=>by
  rw [age_rJ ha hb] at hx;cases e1:ageT a z with
  | none=>rw [e1] at hx;exact h2 z x hx
  | some x1 =>
    cases e2:ageT b z with
    | none=>rw [e1,e2] at hx;cases hx;exact h1 z _ e1
    | some x2 =>
      rw [e1,e2] at hx;cases hx;obtain⟨c1,g1,g2⟩:=h1 z x1 e1;obtain⟨c2,g3,g4⟩:=h2 z x2 e2;rw [g1] at g3;cases g3;exact⟨c1,g1,by omega⟩
theorem bmp_mono {d d' a a':Int} (h1:d≤d') (h2:a≤a'):bmp d a≤bmp d' a':=by unfold bmp;split <;> split <;> omega
theorem agS_mono {x d d' z a a' b:Int} (h1:d≤d') (h2:a≤a') (h:agS s y x d' z a'=some b):∃ b',agS s y x d z a=some b'∧b'≤b:=by
  unfold agS at h ⊢;have:=bmp_mono h1 h2;by_cases e:z.tmod s=x.tmod s
  · rw [if_pos e] at h ⊢
    split at h
    · cases h;exact⟨_,by rw [if_pos (by omega)],by omega⟩
    · cases h
  · rw [if_neg e] at h ⊢
    split at h
    · cases h;exact⟨a,by rw [if_pos (by omega)],by omega⟩
    · cases h
theorem getD_M {a b:List T2} (ha:VT s y l m a) (h:leM a b) (x:Int):(ageT a x).getD y≤(ageT b x).getD y:=by
  cases e:ageT b x with
  | none =>
    cases e2:ageT a x with
    | none=>exact Int.le_refl _
    | some c=>have:=(ha.age e2).2;simp;omega
  | some c=>obtain⟨c',g1,g2⟩:=h x c e;rw [g1];exact g2
theorem getD_N {a b:List T2} (hb:VT s y l m b) (h:leN a b) (x:Int):(ageT b x).getD y≤(ageT a x).getD y:=by
  cases e:ageT a x with
  | none =>
    cases e2:ageT b x with
    | none=>exact Int.le_refl _
    | some c=>have:=(hb.age e2).2;simp;omega
  | some c=>obtain⟨c',g1,g2⟩:=h x c e;rw [g1];exact g2
theorem tc_monoM {a b:List T2} (ha:VT s y l m a) (hb:VT s y l m b) (h:leM a b) (x k:Int):leM (tcH s y x k a) (tcH s y x k b):=fun z c hc=>by
  rw [age_tc hb] at hc;rw [age_tc ha];unfold agA at hc ⊢;by_cases e:z=x
  · rw [if_pos e] at hc ⊢;cases hc;exact⟨0,rfl,Int.le_refl _⟩
  · rw [if_neg e] at hc ⊢
    obtain⟨c0,g1,g2⟩:=Option.bind_eq_some_iff.1 hc;obtain⟨a0,g3,g4⟩:=h z c0 g1;have hd:=getD_M ha h x;obtain⟨b',g5,g6⟩:=agS_mono (d:=(ageT a x).getD y+k) (by omega) g4 g2;exact⟨b',by rw [g3];exact g5,g6⟩
theorem tc_monoN {a b:List T2} (ha:VT s y l m a) (hb:VT s y l m b) (h:leN a b) (x k:Int):leN (tcH s y x k a) (tcH s y x k b):=fun z c hc=>by
  rw [age_tc ha] at hc;rw [age_tc hb];unfold agA at hc ⊢;by_cases e:z=x
  · rw [if_pos e] at hc ⊢;cases hc;exact⟨0,rfl,Int.le_refl _⟩
  · rw [if_neg e] at hc ⊢
    obtain⟨c0,g1,g2⟩:=Option.bind_eq_some_iff.1 hc;obtain⟨a0,g3,g4⟩:=h z c0 g1;have hd:=getD_N hb h x;obtain⟨b',g5,g6⟩:=agS_mono (d:=(ageT b x).getD y+k) (by omega) g4 g2;exact⟨b',by rw [g3];exact g5,g6⟩
theorem ex_diff {a b:List T2} (ha:VT s y l m a) (hb:VT s y l m b) (hne:a≠b):∃ z:Nat,z<1000∧ageT a (z:Int)≠ageT b (z:Int):=by
  apply Classical.byContradiction;intro hno;apply hne;refine age_ext ha.so hb.so fun z=>?_;by_cases hz:0≤z∧z≤999
  · have h2 : (z.toNat : Int) = z := Int.toNat_of_nonneg hz.1
    apply Classical.byContradiction;intro h3;exact hno ⟨z.toNat,by omega,by rw [h2];exact h3⟩
  · have h1:ageT a z=none:=by
      cases e:ageT a z with
      | none=>rfl
      | some c=>exact absurd (ha.age e).1 hz
    have h2:ageT b z=none:=by
      cases e:ageT b z with
      | none=>rfl
      | some c=>exact absurd (hb.age e).1 hz
    rw [h1,h2]
theorem muM_lt {a b:List T2} (ha:VT s y l m a) (hb:VT s y l m b) (h:leM a b) (hne:a≠b):muM y b<muM y a:=by
  have hle:∀ z:Nat,(match ageT b (z:Int) with | some a=>(y-a).toNat | none=>0)≤(match ageT a (z:Int) with | some a=>(y-a).toNat | none=>0):=fun z=>by
    cases e:ageT b (z:Int) with
    | none=>exact Nat.zero_le _
    | some c=>obtain⟨c',g1,g2⟩:=h _ c e;rw [g1];show (y-c).toNat≤(y-c').toNat;omega
  obtain⟨v,hv,hd⟩:=ex_diff ha hb hne;refine sum_lt hv (fun i _=>hle i) ?_;cases e:ageT b (v:Int) with
  | none =>
    cases e2:ageT a (v:Int) with
    | none=>rw [e,e2] at hd;exact absurd rfl hd
    | some c=>have:=(ha.age e2).2;show 0<(y-c).toNat;omega
  | some c =>
    obtain⟨c',g1,g2⟩:=h _ c e;have:=(hb.age e).2;rw [g1] at hd ⊢;rw [e] at hd;show (y-c).toNat<(y-c').toNat;have:c'≠c:=fun q=>hd (by rw [q]);omega
theorem muN_lt {a b:List T2} (ha:VT s y l m a) (hb:VT s y l m b) (h:leN a b) (hne:a≠b):muN y b<muN y a:=by
  have hle:∀ z:Nat,((ageT b (z:Int)).getD y).toNat≤((ageT a (z:Int)).getD y).toNat:=fun z=>by
    have:=getD_N hb h (z:Int);omega
  obtain⟨v,hv,hd⟩:=ex_diff ha hb hne;refine sum_lt hv (fun i _=>hle i) ?_;have hy:=ha.y1;have h1:=getD_N hb h (v:Int);cases e:ageT a (v:Int) with
  | none =>
    cases e2:ageT b (v:Int) with
    | none=>rw [e,e2] at hd;exact absurd rfl hd
    | some c=>have:=(hb.age e2).2;simp;omega
  | some c =>
    obtain⟨c',g1,g2⟩:=h _ c e;have:=(ha.age e).2;have:=(hb.age g1).2;rw [g1] at hd ⊢;rw [e] at hd;simp only [Option.getD_some];have:c'≠c:=fun q=>hd (by rw [q]);omega
theorem tc_okM (hg:vG s y l m=true) (i:Nat) (a:List T2) (hi:i<1000) (ha:VT s y l m a):VT s y l m ((opsM s y l).F i a):=VT_tc (x:=(i:Int)/l) (k:=0) ha (ln_bd hg hi)
theorem tc_okN (hg:vG s y l m=true) (i:Nat) (a:List T2) (hi:i<1000) (ha:VT s y l m a):VT s y l m ((opsN s y l).F i a):=VT_tc (x:=(i:Int)/l) (k:=1) ha (ln_bd hg hi)
theorem mu_ltM (a b:List T2) (ha:VT s y l m a) (hb:VT s y l m b) (h:leM a b) (hne:a≠b):(opsM s y l).mu b<(opsM s y l).mu a:=by
  have h1:=muM_lt ha hb h hne;dsimp only [opsM];exact h1
theorem mu_ltN (a b:List T2) (ha:VT s y l m a) (hb:VT s y l m b) (h:leN a b) (hne:a≠b):(opsN s y l).mu b<(opsN s y l).mu a:=by
  have h1:=muN_lt ha hb h hne;dsimp only [opsN];exact h1
def latM (s y l m:Int) (hg:vG s y l m=true):Fl.Lat (List T2) :=
  { toOps:=opsM s y l,ok:=VT s y l m,le:=leM,
    okJ:=fun a b ha hb=>VT_jM ha hb,okF:=tc_okM hg,
    rfl:=fun a _=>leM_refl a,trans:=fun a b c _ _ _ h1 h2=>leM_trans h1 h2,anti:=fun a b ha hb h1 h2=>leM_anti ha.so hb.so h1 h2,
    left:=fun a b ha _=>jM_left ha.so,right:=fun a b ha _=>jM_right ha.so,lub:=fun a b c ha _ _ h1 h2=>jM_lub ha.so h1 h2,
    mono:=fun i a b _ ha hb h=>tc_monoM ha hb h _ _,lt:=mu_ltM }
def latN (s y l m:Int) (hg:vG s y l m=true):Fl.Lat (List T2) :=
  { toOps:=opsN s y l,ok:=VT s y l m,le:=leN,
    okJ:=fun a b ha hb=>VT_rJ ha hb,okF:=tc_okN hg,
    rfl:=fun a _=>leN_refl a,trans:=fun a b c _ _ _ h1 h2=>leN_trans h1 h2,anti:=fun a b ha hb h1 h2=>leN_anti ha.so hb.so h1 h2,
    left:=fun a b ha hb=>rJ_left ha.so hb.so,right:=fun a b ha hb=>rJ_right ha.so hb.so,lub:=fun a b c ha hb _ h1 h2=>rJ_lub ha.so hb.so h1 h2,
    mono:=fun i a b _ ha hb h=>tc_monoN ha hb h _ _,lt:=mu_ltN }
end
end Ca
end Go.Proofs.YtmjnakhpekbenaaGreat
namespace Go.Proofs.YtmjnakhpekbenaaGreat
set_option maxRecDepth 20000
set_option maxHeartbeats 4000000
open Go.RowKit Fw
namespace Ec
def ParC (p:Option Addr) (n cap:Nat) (c A B:Nat→Int) (at':Nat):Prop:=∀ w,InC w p n c A B→Calls Tryz.prog 45 #[.slice p n cap,vI (at':Int)] w fun e w' =>
  ∃ (nx:Nat) (d:Int),e=.returned (.tuple #[.int .i64 (nx:Int),.int .i64 d])∧PR c n at' nx d∧Below w.heap.size w w'
def BraC (p:Option Addr) (n cap:Nat) (c A B:Nat→Int) (k:Nat):Prop:=∀ w,InC w p n c A B→Calls Tryz.prog 49 #[.slice p n cap,vI (k:Int)] w fun e w' =>
  ∃ (a:Int) (en:Nat) (d:Int),e=.returned (.tuple #[.int .i64 a,.int .i64 (en:Int),.int .i64 d])∧BR c n k a en d∧Below w.heap.size w w'
theorem PR_bad {c:Nat→Int} {n k nx:Nat} {d:Int} (h:PR c n k nx d) (hd:d<0):Fail c n k:=by
  rcases h with ⟨_,_,h⟩ | ⟨h,_⟩
  · exact h
  · omega
theorem PR_ok {c:Nat→Int} {n k nx:Nat} {d:Int} (h:PR c n k nx d) (hd:¬ d<0):∃ d2:Nat,d=(d2:Int)∧d2+k≤nx∧nx≤n∧(nx<n→c nx=34∨c nx=35)∧ParS c k nx d2:=by
  rcases h with ⟨h,_,_⟩ | ⟨h,h1,h2,h3,h4⟩
  · omega
  · exact⟨d.toNat,by omega,by omega,h2,h3,h4⟩
theorem BR_bad {c:Nat→Int} {n k e:Nat} {a d:Int} (h:BR c n k a e d) (hd:d<0):Fail c n k:=by
  rcases h with ⟨_,_,_,h⟩ | ⟨h,_⟩
  · exact h
  · omega
theorem BR_ok {c:Nat→Int} {n k e:Nat} {a d:Int} (h:BR c n k a e d) (hd:¬ d<0):∃ d2:Nat,d=(d2:Int)∧d2+k<e∧e<n∧BraS c k a e d2:=by
  rcases h with ⟨_,_,h,_⟩ | ⟨h,h1,h2,h3⟩
  · omega
  · exact⟨d.toNat,by omega,by omega,h2,h3⟩
theorem nend {c:Nat→Int} {k n nx d:Nat} (h:ParS c k nx d) (e:nx=n):ParS c k n d:=e ▸ h
theorem bra_any (p:Option Addr) (n cap:Nat) (c A B:Nat→Int) (k:Nat) (hn:n≤400) (hk:k<n) (hO:opn (c k)=true) (hp:∀ at',k<at'→at'≤n→ParC p n cap c A B at') (w:World) (hIn:InC w p n c A B) :
  Calls Tryz.prog 49 #[.slice p n cap,vI (k:Int)] w fun e w'=>∃ (a:Int) (en:Nat) (d:Int),e=.returned (.tuple #[.int .i64 a,.int .i64 (en:Int),.int .i64 d])∧BR c n k a en d∧Below w.heap.size w w':=by
 refine calls_of Tryz.func49 rfl (m:=84) rfl [(0,.slice p n cap),(1,vI (k:Int))] (Fr_enter [.slice p n cap,vI (k:Int)] 84 (Nat.le_of_ble_eq_true rfl)) ?_;have hH1:HP Tr w w []:=HP.refl w;refine WC.seq fun K2 hK2=>WC.region (WL.z (vI 0) 4 (WL.z (vI 0) 5 (WL.z (vI 0) 6 (WL.k hK2 (WC.seq fun K3 hK3=>WC.region (WL.z (vI (-1)) 7 (WL.nil ?_)))))));refine WQ.then (hK3 _ _ _ (WC.seq fun K4 hK4=>WC.region (WL.z (.slice p n cap) 13 (WL.z (vI (k:Int)) 14 (WL.y (vI ((k+1:Nat):Int)) 15 (x_ad (((k+1:Nat):Int))) ?_)))));refine WL.c 45 #[.slice p n cap,vI ((k+1:Nat):Int)] 16 ?_;refine(hp (k+1) (by omega) (by omega) _ (hIn.below (HP.below hH1))).mono ?_;rintro e w5 ⟨nx1,e1,rfl,hP1,hb6⟩;refine⟨_,rfl,?_⟩;have hH7:=HP.call hH1 hb6;refine WL.z (.tuple #[vI (nx1:Int),vI e1]) 12 (WL.z (vI (nx1:Int)) 17 (WL.z (vI e1) 18 (WL.z (vI (nx1:Int)) 8 (WL.z (vI e1) 9 (WL.k hK4 (WC.sb [(0,.slice p n cap),(1,vI (k:Int)),(4,vI 0),(5,vI 0),(6,vI 0),(7,vI (-1)),(8,vI (nx1:Int)),(9,vI e1)] (WC.seq fun K8 hK8=>WC.seq fun K9 hK9=>WC.region ?_)))))));refine WL.z (vI e1) 19 ?_;by_cases hd1:e1<0
 ·
  refine WL.y (.bool true) 20 (x_lss rfl rfl rfl (dT (hd1))) (WL.z (.bool true) 21 (WL.p 22 (WL.p 23 (WL.p 24 (WL.p 25 (WL.z (.bool true) 26 (WL.k hK9 (WC.sb [(0,.slice p n cap),(1,vI (k:Int)),(4,vI 0),(5,vI 0),(6,vI 0),(7,vI (-1)),(8,vI (nx1:Int)),(9,vI e1),(26,.bool true)] ?_))))))));refine WC.yes rfl ?_;refine WC.seq fun K10 hK10=>WC.region (WL.z (vI 0) 4 (WL.z (vI 0) 5 (WL.z (vI (-1)) 6 (WL.k hK10 (WC.ret ?_)))));refine WQ.thenRet ?_;refine WQ.ret3 4 5 6 rfl rfl rfl rfl ?_;exact⟨0,0,-1,rfl,.inl ⟨rfl,rfl,rfl,Fail_open hO (PR_bad hP1 hd1)⟩,HP.below hH7⟩
 ·
  obtain⟨d1,rfl,hx1,hn1,ht1,hS1⟩:=PR_ok hP1 hd1;refine WL.y (.bool false) 20 (x_lss rfl rfl rfl (dF (hd1))) (WL.z (.bool false) 21 (WL.z (vI (nx1:Int)) 22 (WL.z (.slice p n cap) 23 (WL.z (vI (n:Int)) 24 ?_))));by_cases hnx:(n:Int)≤(nx1:Int)
  ·
   refine WL.y (.bool true) 25 (x_geq rfl rfl rfl (dT (hnx))) (WL.z (.bool true) 26 (WL.k hK9 (WC.sb [(0,.slice p n cap),(1,vI (k:Int)),(4,vI 0),(5,vI 0),(6,vI 0),(7,vI (-1)),(8,vI (nx1:Int)),(9,vI (d1:Int)),(26,.bool true)] ?_)));refine WC.yes rfl ?_;refine WC.seq fun K11 hK11=>WC.region (WL.z (vI 0) 4 (WL.z (vI 0) 5 (WL.z (vI (-1)) 6 (WL.k hK11 (WC.ret ?_)))));refine WQ.thenRet ?_;refine WQ.ret3 4 5 6 rfl rfl rfl rfl ?_;exact⟨0,0,-1,rfl,.inl ⟨rfl,rfl,rfl,Fail_end hO (d:=d1) (nend hS1 (by omega))⟩,HP.below hH7⟩
  ·
   refine WL.y (.bool false) 25 (x_geq rfl rfl rfl (dF (hnx))) (WL.z (.bool false) 26 (WL.k hK9 (WC.sb [(0,.slice p n cap),(1,vI (k:Int)),(4,vI 0),(5,vI 0),(6,vI 0),(7,vI (-1)),(8,vI (nx1:Int)),(9,vI (d1:Int)),(26,.bool false)] ?_)));refine WC.no rfl ?_;refine WC.skip (WQ.then (hK8 _ _ _ (WC.seq fun K12 hK12=>WC.seq fun K13 hK13=>?_)));obtain⟨bb,oo,rfl,hrow⟩:=hIn (by omega);refine WC.region (WL.z (.slice (some ⟨bb,oo,none⟩) n cap) 27 (WL.z (vI (nx1:Int)) 28 (WL.y (vP bb (oo+nx1*3)) 29 (x_ix (nx1) (oo+nx1*3) Tryz.underlying24 sz51) (WL.z (vP bb (oo+nx1*3)) 30 (WL.y (vI (c nx1)) 31 (x_load rfl rfl Tryz.underlying3 rfl ((HP.oldRange hH7 trivial (hrow nx1 (by omega))) 0 _ rfl)) ?_)))));by_cases h34:c nx1=34
   ·
    refine WL.y (.bool true) 32 (x_eql rfl rfl rfl (dT (h34))) (WL.k hK13 ?_);refine WC.yes rfl ?_;refine WC.seq fun K14 hK14=>WC.seq fun K15 hK15=>WC.region (WL.z (.slice (some ⟨bb,oo,none⟩) n cap) 33 (WL.z (vI (k:Int)) 34 (WL.y (vP bb (oo+k*3)) 35 (x_ix (k) (oo+k*3) Tryz.underlying24 sz51) (WL.z (vP bb (oo+k*3)) 36 (WL.y (vI (c k)) 37 (x_load rfl rfl Tryz.underlying3 rfl ((HP.oldRange hH7 trivial (hrow k (by omega))) 0 _ rfl)) ?_)))));by_cases h29:c k≠29
    ·
     refine WL.y (.bool true) 38 (x_neq rfl rfl rfl (dT (h29))) (WL.z (.bool true) 39 (WL.z (.slice (some ⟨bb,oo,none⟩) n cap) 40 (WL.z (vI (k:Int)) 41 (WL.y (vP bb (oo+k*3)) 42 (x_ix (k) (oo+k*3) Tryz.underlying24 sz51) (WL.z (vP bb (oo+k*3)) 43 (WL.y (vI (c k)) 44 (x_load rfl rfl Tryz.underlying3 rfl ((HP.oldRange hH7 trivial (hrow k (by omega))) 0 _ rfl)) ?_))))));by_cases h33:c k≠33
     ·
      refine WL.y (.bool true) 45 (x_neq rfl rfl rfl (dT (h33))) (WL.z (.bool true) 46 (WL.k hK15 (WC.sb [(0,.slice (some ⟨bb,oo,none⟩) n cap),(1,vI (k:Int)),(4,vI 0),(5,vI 0),(6,vI 0),(7,vI (-1)),(8,vI (nx1:Int)),(9,vI (d1:Int)),(26,.bool false),(32,.bool true),(46,.bool true)] ?_)));refine WC.yes rfl ?_;refine WC.seq fun K16 hK16=>WC.region (WL.z (vI 0) 4 (WL.z (vI 0) 5 (WL.z (vI (-1)) 6 (WL.k hK16 (WC.ret ?_)))));refine WQ.thenRet ?_;refine WQ.thenRet ?_;refine WQ.ret3 4 5 6 rfl rfl rfl rfl ?_;exact⟨0,0,-1,rfl,.inl ⟨rfl,rfl,rfl,Fail_two hO hS1 h34 (by omega) (two_no h29 h33)⟩,HP.below hH7⟩
     ·
      refine WL.y (.bool false) 45 (x_neq rfl rfl rfl (dF (h33))) (WL.z (.bool false) 46 (WL.k hK15 (WC.sb [(0,.slice (some ⟨bb,oo,none⟩) n cap),(1,vI (k:Int)),(4,vI 0),(5,vI 0),(6,vI 0),(7,vI (-1)),(8,vI (nx1:Int)),(9,vI (d1:Int)),(26,.bool false),(32,.bool true),(46,.bool false)] ?_)));refine WC.no rfl ?_;refine WC.skip (WQ.then (hK14 _ _ _ (WC.seq fun K17 hK17=>WC.region (WL.z (vI (nx1:Int)) 47 (WL.z (vI (nx1:Int)) 7 (WL.k hK17 (WC.seq fun K18 hK18=>WC.region ?_)))))));refine WL.z (.slice (some ⟨bb,oo,none⟩) n cap) 49 (WL.z (vI (nx1:Int)) 50 (WL.y (vI ((nx1+1:Nat):Int)) 51 (x_ad (((nx1+1:Nat):Int))) ?_));refine WL.c 45 #[.slice (some ⟨bb,oo,none⟩) n cap,vI ((nx1+1:Nat):Int)] 52 ?_;refine(hp (nx1+1) (by omega) (by omega) _ (hIn.below (HP.below hH7))).mono ?_;rintro e w19 ⟨nx2,e2,rfl,hP2,hb20⟩;refine⟨_,rfl,?_⟩;have hH21:=HP.call hH7 hb20;refine WL.z (.tuple #[vI (nx2:Int),vI e2]) 48 (WL.z (vI (nx2:Int)) 53 (WL.z (vI e2) 54 (WL.z (vI (nx2:Int)) 10 (WL.z (vI e2) 11 (WL.k hK18 (WC.sb [(0,.slice (some ⟨bb,oo,none⟩) n cap),(1,vI (k:Int)),(4,vI 0),(5,vI 0),(6,vI 0),(7,vI (nx1:Int)),(8,vI (nx1:Int)),(9,vI (d1:Int)),(10,vI (nx2:Int)),(11,vI e2),(26,.bool false),(32,.bool true),(46,.bool false)] (WC.seq fun K22 hK22=>WC.seq fun K23 hK23=>WC.region ?_)))))));refine WL.z (vI e2) 55 ?_;by_cases hd2:e2<0
      ·
       refine WL.y (.bool true) 56 (x_lss rfl rfl rfl (dT (hd2))) (WL.z (.bool true) 57 (WL.p 58 (WL.p 59 (WL.p 60 (WL.p 61 (WL.z (.bool true) 62 (WL.z (.bool true) 63 (WL.p 64 (WL.p 65 (WL.p 66 (WL.p 67 ?_)))))))))));refine WL.p 68 (WL.p 69 (WL.z (.bool true) 70 (WL.k hK23 (WC.sb [(0,.slice (some ⟨bb,oo,none⟩) n cap),(1,vI (k:Int)),(4,vI 0),(5,vI 0),(6,vI 0),(7,vI (nx1:Int)),(8,vI (nx1:Int)),(9,vI (d1:Int)),(10,vI (nx2:Int)),(11,vI e2),(26,.bool false),(32,.bool true),(46,.bool false),(70,.bool true)] ?_))));refine WC.yes rfl ?_;refine WC.seq fun K24 hK24=>WC.region (WL.z (vI 0) 4 (WL.z (vI 0) 5 (WL.z (vI (-1)) 6 (WL.k hK24 (WC.ret ?_)))));refine WQ.thenRet ?_;refine WQ.thenRet ?_;refine WQ.ret3 4 5 6 rfl rfl rfl rfl ?_;exact⟨0,0,-1,rfl,.inl ⟨rfl,rfl,rfl,Fail_alt (two_yes (by omega)) hS1 (by omega) h34 (PR_bad hP2 hd2)⟩,HP.below hH21⟩
      ·
       obtain⟨d2,rfl,hx2,hn2,ht2,hS2⟩:=PR_ok hP2 hd2;refine WL.y (.bool false) 56 (x_lss rfl rfl rfl (dF (hd2))) (WL.z (.bool false) 57 (WL.z (vI (nx2:Int)) 58 (WL.z (.slice (some ⟨bb,oo,none⟩) n cap) 59 (WL.z (vI (n:Int)) 60 ?_))));by_cases hnx2:(n:Int)≤(nx2:Int)
       ·
        refine WL.y (.bool true) 61 (x_geq rfl rfl rfl (dT (hnx2))) (WL.z (.bool true) 62 (WL.z (.bool true) 63 (WL.p 64 (WL.p 65 (WL.p 66 (WL.p 67 (WL.p 68 (WL.p 69 (WL.z (.bool true) 70 (WL.nil (WQ.then ?_)))))))))));refine hK23 _ _ _ (WC.sb [(0,.slice (some ⟨bb,oo,none⟩) n cap),(1,vI (k:Int)),(4,vI 0),(5,vI 0),(6,vI 0),(7,vI (nx1:Int)),(8,vI (nx1:Int)),(9,vI (d1:Int)),(10,vI (nx2:Int)),(11,vI (d2:Int)),(26,.bool false),(32,.bool true),(46,.bool false),(70,.bool true)] ?_);refine WC.yes rfl ?_;refine WC.seq fun K25 hK25=>WC.region (WL.z (vI 0) 4 (WL.z (vI 0) 5 (WL.z (vI (-1)) 6 (WL.k hK25 (WC.ret ?_)))));refine WQ.thenRet ?_;refine WQ.thenRet ?_;refine WQ.ret3 4 5 6 rfl rfl rfl rfl ?_;exact⟨0,0,-1,rfl,.inl ⟨rfl,rfl,rfl,Fail_alt_end (d2:=d2) (two_yes (by omega)) hS1 (by omega) h34 (nend hS2 (by omega))⟩,HP.below hH21⟩
       ·
        refine WL.y (.bool false) 61 (x_geq rfl rfl rfl (dF (hnx2))) (WL.z (.bool false) 62 (WL.z (.bool false) 63 (WL.z (.slice (some ⟨bb,oo,none⟩) n cap) 64 (WL.z (vI (nx2:Int)) 65 (WL.y (vP bb (oo+nx2*3)) 66 (x_ix (nx2) (oo+nx2*3) Tryz.underlying24 sz51) (WL.z (vP bb (oo+nx2*3)) 67 (WL.y (vI (c nx2)) 68 (x_load rfl rfl Tryz.underlying3 rfl ((HP.oldRange hH21 trivial (hrow nx2 (by omega))) 0 _ rfl)) ?_)))))));by_cases h35:c nx2≠35
        ·
         refine WL.y (.bool true) 69 (x_neq rfl rfl rfl (dT (h35))) (WL.z (.bool true) 70 (WL.k hK23 (WC.sb [(0,.slice (some ⟨bb,oo,none⟩) n cap),(1,vI (k:Int)),(4,vI 0),(5,vI 0),(6,vI 0),(7,vI (nx1:Int)),(8,vI (nx1:Int)),(9,vI (d1:Int)),(10,vI (nx2:Int)),(11,vI (d2:Int)),(26,.bool false),(32,.bool true),(46,.bool false),(70,.bool true)] ?_)));refine WC.yes rfl ?_;refine WC.seq fun K26 hK26=>WC.region (WL.z (vI 0) 4 (WL.z (vI 0) 5 (WL.z (vI (-1)) 6 (WL.k hK26 (WC.ret ?_)))));refine WQ.thenRet ?_;refine WQ.thenRet ?_;refine WQ.ret3 4 5 6 rfl rfl rfl rfl ?_;exact⟨0,0,-1,rfl,.inl ⟨rfl,rfl,rfl,Fail_alt_else (two_yes (by omega)) hS1 (by omega) h34 hS2 (by omega) (by have:=ht2 (by omega);omega) (by omega)⟩,HP.below hH21⟩
        ·
         refine WL.y (.bool false) 69 (x_neq rfl rfl rfl (dF (h35))) (WL.z (.bool false) 70 (WL.k hK23 (WC.sb [(0,.slice (some ⟨bb,oo,none⟩) n cap),(1,vI (k:Int)),(4,vI 0),(5,vI 0),(6,vI 0),(7,vI (nx1:Int)),(8,vI (nx1:Int)),(9,vI (d1:Int)),(10,vI (nx2:Int)),(11,vI (d2:Int)),(26,.bool false),(32,.bool true),(46,.bool false),(70,.bool false)] ?_)));refine WC.no rfl ?_;refine WC.skip (WQ.then (hK22 _ _ _ (WC.seq fun K27 hK27=>WC.region (WL.z (vI (nx2:Int)) 71 (WL.z (vI (nx2:Int)) 8 (WL.k hK27 (WC.region (WL.z (vI (d1:Int)) 72 ?_))))))));refine WL.z (vI (d2:Int)) 73 (WL.y (vI ((max d1 d2:Nat):Int)) 74 (x_max (Z:=((max d1 d2:Nat):Int)) (t:=0) rfl rfl rfl (by split <;> omega)) (WL.z (vI ((max d1 d2:Nat):Int)) 9 (WL.k hK12 (WC.sb [(0,.slice (some ⟨bb,oo,none⟩) n cap),(1,vI (k:Int)),(4,vI 0),(5,vI 0),(6,vI 0),(7,vI (nx1:Int)),(8,vI (nx2:Int)),(9,vI ((max d1 d2:Nat):Int)),(10,vI (nx2:Int)),(11,vI (d2:Int)),(26,.bool false),(32,.bool true),(46,.bool false),(70,.bool false)] (WC.seq fun K28 hK28=>WC.region (WL.z (vI (nx1:Int)) 81 (WL.z (vI (nx2:Int)) 82 (WL.z (vI ((max d1 d2:Nat):Int)) 83 ?_))))))));refine WL.z (vI (nx1:Int)) 4 (WL.z (vI (nx2:Int)) 5 (WL.z (vI ((max d1 d2:Nat):Int)) 6 (WL.k hK28 (WC.sb [(0,.slice (some ⟨bb,oo,none⟩) n cap),(1,vI (k:Int)),(4,vI (nx1:Int)),(5,vI (nx2:Int)),(6,vI ((max d1 d2:Nat):Int)),(7,vI (nx1:Int)),(8,vI (nx2:Int)),(9,vI ((max d1 d2:Nat):Int)),(10,vI (nx2:Int)),(11,vI (d2:Int)),(26,.bool false),(32,.bool true),(46,.bool false),(70,.bool false)] (WC.ret ?_)))));refine WQ.ret3 4 5 6 rfl rfl rfl rfl ?_;exact⟨(nx1:Int),nx2,((max d1 d2:Nat):Int),rfl,.inr ⟨by omega,by omega,by omega,by simpa using BraS_alt (two_yes (by omega)) hS1 (by omega) h34 hS2 (by omega) (by omega)⟩,HP.below hH21⟩
    ·
     refine WL.y (.bool false) 38 (x_neq rfl rfl rfl (dF (h29))) (WL.z (.bool false) 39 (WL.p 40 (WL.p 41 (WL.p 42 (WL.p 43 (WL.p 44 (WL.p 45 (WL.z (.bool false) 46 (WL.k hK15 ?_)))))))));refine WC.sb [(0,.slice (some ⟨bb,oo,none⟩) n cap),(1,vI (k:Int)),(4,vI 0),(5,vI 0),(6,vI 0),(7,vI (-1)),(8,vI (nx1:Int)),(9,vI (d1:Int)),(26,.bool false),(32,.bool true),(46,.bool false)] ?_;refine WC.no rfl ?_;refine WC.skip (WQ.then (hK14 _ _ _ (WC.seq fun K29 hK29=>WC.region (WL.z (vI (nx1:Int)) 47 (WL.z (vI (nx1:Int)) 7 (WL.k hK29 (WC.seq fun K30 hK30=>WC.region ?_)))))));refine WL.z (.slice (some ⟨bb,oo,none⟩) n cap) 49 (WL.z (vI (nx1:Int)) 50 (WL.y (vI ((nx1+1:Nat):Int)) 51 (x_ad (((nx1+1:Nat):Int))) ?_));refine WL.c 45 #[.slice (some ⟨bb,oo,none⟩) n cap,vI ((nx1+1:Nat):Int)] 52 ?_;refine(hp (nx1+1) (by omega) (by omega) _ (hIn.below (HP.below hH7))).mono ?_;rintro e w31 ⟨nx2,e2,rfl,hP2,hb32⟩;refine⟨_,rfl,?_⟩;have hH33:=HP.call hH7 hb32;refine WL.z (.tuple #[vI (nx2:Int),vI e2]) 48 (WL.z (vI (nx2:Int)) 53 (WL.z (vI e2) 54 (WL.z (vI (nx2:Int)) 10 (WL.z (vI e2) 11 (WL.k hK30 (WC.sb [(0,.slice (some ⟨bb,oo,none⟩) n cap),(1,vI (k:Int)),(4,vI 0),(5,vI 0),(6,vI 0),(7,vI (nx1:Int)),(8,vI (nx1:Int)),(9,vI (d1:Int)),(10,vI (nx2:Int)),(11,vI e2),(26,.bool false),(32,.bool true),(46,.bool false)] (WC.seq fun K34 hK34=>WC.seq fun K35 hK35=>WC.region ?_)))))));refine WL.z (vI e2) 55 ?_;by_cases hd2:e2<0
     ·
      refine WL.y (.bool true) 56 (x_lss rfl rfl rfl (dT (hd2))) (WL.z (.bool true) 57 (WL.p 58 (WL.p 59 (WL.p 60 (WL.p 61 (WL.z (.bool true) 62 (WL.z (.bool true) 63 (WL.p 64 (WL.p 65 (WL.p 66 (WL.p 67 ?_)))))))))));refine WL.p 68 (WL.p 69 (WL.z (.bool true) 70 (WL.k hK35 (WC.sb [(0,.slice (some ⟨bb,oo,none⟩) n cap),(1,vI (k:Int)),(4,vI 0),(5,vI 0),(6,vI 0),(7,vI (nx1:Int)),(8,vI (nx1:Int)),(9,vI (d1:Int)),(10,vI (nx2:Int)),(11,vI e2),(26,.bool false),(32,.bool true),(46,.bool false),(70,.bool true)] ?_))));refine WC.yes rfl ?_;refine WC.seq fun K36 hK36=>WC.region (WL.z (vI 0) 4 (WL.z (vI 0) 5 (WL.z (vI (-1)) 6 (WL.k hK36 (WC.ret ?_)))));refine WQ.thenRet ?_;refine WQ.thenRet ?_;refine WQ.ret3 4 5 6 rfl rfl rfl rfl ?_;exact⟨0,0,-1,rfl,.inl ⟨rfl,rfl,rfl,Fail_alt (two_yes (by omega)) hS1 (by omega) h34 (PR_bad hP2 hd2)⟩,HP.below hH33⟩
     ·
      obtain⟨d2,rfl,hx2,hn2,ht2,hS2⟩:=PR_ok hP2 hd2;refine WL.y (.bool false) 56 (x_lss rfl rfl rfl (dF (hd2))) (WL.z (.bool false) 57 (WL.z (vI (nx2:Int)) 58 (WL.z (.slice (some ⟨bb,oo,none⟩) n cap) 59 (WL.z (vI (n:Int)) 60 ?_))));by_cases hnx2:(n:Int)≤(nx2:Int)
      ·
       refine WL.y (.bool true) 61 (x_geq rfl rfl rfl (dT (hnx2))) (WL.z (.bool true) 62 (WL.z (.bool true) 63 (WL.p 64 (WL.p 65 (WL.p 66 (WL.p 67 (WL.p 68 (WL.p 69 (WL.z (.bool true) 70 (WL.nil (WQ.then ?_)))))))))));refine hK35 _ _ _ (WC.sb [(0,.slice (some ⟨bb,oo,none⟩) n cap),(1,vI (k:Int)),(4,vI 0),(5,vI 0),(6,vI 0),(7,vI (nx1:Int)),(8,vI (nx1:Int)),(9,vI (d1:Int)),(10,vI (nx2:Int)),(11,vI (d2:Int)),(26,.bool false),(32,.bool true),(46,.bool false),(70,.bool true)] ?_);refine WC.yes rfl ?_;refine WC.seq fun K37 hK37=>WC.region (WL.z (vI 0) 4 (WL.z (vI 0) 5 (WL.z (vI (-1)) 6 (WL.k hK37 (WC.ret ?_)))));refine WQ.thenRet ?_;refine WQ.thenRet ?_;refine WQ.ret3 4 5 6 rfl rfl rfl rfl ?_;exact⟨0,0,-1,rfl,.inl ⟨rfl,rfl,rfl,Fail_alt_end (d2:=d2) (two_yes (by omega)) hS1 (by omega) h34 (nend hS2 (by omega))⟩,HP.below hH33⟩
      ·
       refine WL.y (.bool false) 61 (x_geq rfl rfl rfl (dF (hnx2))) (WL.z (.bool false) 62 (WL.z (.bool false) 63 (WL.z (.slice (some ⟨bb,oo,none⟩) n cap) 64 (WL.z (vI (nx2:Int)) 65 (WL.y (vP bb (oo+nx2*3)) 66 (x_ix (nx2) (oo+nx2*3) Tryz.underlying24 sz51) (WL.z (vP bb (oo+nx2*3)) 67 (WL.y (vI (c nx2)) 68 (x_load rfl rfl Tryz.underlying3 rfl ((HP.oldRange hH33 trivial (hrow nx2 (by omega))) 0 _ rfl)) ?_)))))));by_cases h35:c nx2≠35
       ·
        refine WL.y (.bool true) 69 (x_neq rfl rfl rfl (dT (h35))) (WL.z (.bool true) 70 (WL.k hK35 (WC.sb [(0,.slice (some ⟨bb,oo,none⟩) n cap),(1,vI (k:Int)),(4,vI 0),(5,vI 0),(6,vI 0),(7,vI (nx1:Int)),(8,vI (nx1:Int)),(9,vI (d1:Int)),(10,vI (nx2:Int)),(11,vI (d2:Int)),(26,.bool false),(32,.bool true),(46,.bool false),(70,.bool true)] ?_)));refine WC.yes rfl ?_;refine WC.seq fun K38 hK38=>WC.region (WL.z (vI 0) 4 (WL.z (vI 0) 5 (WL.z (vI (-1)) 6 (WL.k hK38 (WC.ret ?_)))));refine WQ.thenRet ?_;refine WQ.thenRet ?_;refine WQ.ret3 4 5 6 rfl rfl rfl rfl ?_;exact⟨0,0,-1,rfl,.inl ⟨rfl,rfl,rfl,Fail_alt_else (two_yes (by omega)) hS1 (by omega) h34 hS2 (by omega) (by have:=ht2 (by omega);omega) (by omega)⟩,HP.below hH33⟩
       ·
        refine WL.y (.bool false) 69 (x_neq rfl rfl rfl (dF (h35))) (WL.z (.bool false) 70 (WL.k hK35 (WC.sb [(0,.slice (some ⟨bb,oo,none⟩) n cap),(1,vI (k:Int)),(4,vI 0),(5,vI 0),(6,vI 0),(7,vI (nx1:Int)),(8,vI (nx1:Int)),(9,vI (d1:Int)),(10,vI (nx2:Int)),(11,vI (d2:Int)),(26,.bool false),(32,.bool true),(46,.bool false),(70,.bool false)] ?_)));refine WC.no rfl ?_;refine WC.skip (WQ.then (hK34 _ _ _ (WC.seq fun K39 hK39=>WC.region (WL.z (vI (nx2:Int)) 71 (WL.z (vI (nx2:Int)) 8 (WL.k hK39 (WC.region (WL.z (vI (d1:Int)) 72 ?_))))))));refine WL.z (vI (d2:Int)) 73 (WL.y (vI ((max d1 d2:Nat):Int)) 74 (x_max (Z:=((max d1 d2:Nat):Int)) (t:=0) rfl rfl rfl (by split <;> omega)) (WL.z (vI ((max d1 d2:Nat):Int)) 9 (WL.k hK12 (WC.sb [(0,.slice (some ⟨bb,oo,none⟩) n cap),(1,vI (k:Int)),(4,vI 0),(5,vI 0),(6,vI 0),(7,vI (nx1:Int)),(8,vI (nx2:Int)),(9,vI ((max d1 d2:Nat):Int)),(10,vI (nx2:Int)),(11,vI (d2:Int)),(26,.bool false),(32,.bool true),(46,.bool false),(70,.bool false)] (WC.seq fun K40 hK40=>WC.region (WL.z (vI (nx1:Int)) 81 (WL.z (vI (nx2:Int)) 82 (WL.z (vI ((max d1 d2:Nat):Int)) 83 ?_))))))));refine WL.z (vI (nx1:Int)) 4 (WL.z (vI (nx2:Int)) 5 (WL.z (vI ((max d1 d2:Nat):Int)) 6 (WL.k hK40 (WC.sb [(0,.slice (some ⟨bb,oo,none⟩) n cap),(1,vI (k:Int)),(4,vI (nx1:Int)),(5,vI (nx2:Int)),(6,vI ((max d1 d2:Nat):Int)),(7,vI (nx1:Int)),(8,vI (nx2:Int)),(9,vI ((max d1 d2:Nat):Int)),(10,vI (nx2:Int)),(11,vI (d2:Int)),(26,.bool false),(32,.bool true),(46,.bool false),(70,.bool false)] (WC.ret ?_)))));refine WQ.ret3 4 5 6 rfl rfl rfl rfl ?_;exact⟨(nx1:Int),nx2,((max d1 d2:Nat):Int),rfl,.inr ⟨by omega,by omega,by omega,by simpa using BraS_alt (two_yes (by omega)) hS1 (by omega) h34 hS2 (by omega) (by omega)⟩,HP.below hH33⟩
   ·
    refine WL.y (.bool false) 32 (x_eql rfl rfl rfl (dF (h34))) (WL.k hK13 ?_);refine WC.no rfl ?_;refine WC.seq fun K41 hK41=>WC.region (WL.z (.slice (some ⟨bb,oo,none⟩) n cap) 75 (WL.z (vI (k:Int)) 76 (WL.y (vP bb (oo+k*3)) 77 (x_ix (k) (oo+k*3) Tryz.underlying24 sz51) (WL.z (vP bb (oo+k*3)) 78 (WL.y (vI (c k)) 79 (x_load rfl rfl Tryz.underlying3 rfl ((HP.oldRange hH7 trivial (hrow k (by omega))) 0 _ rfl)) ?_)))));by_cases h33:c k=33
    ·
     refine WL.y (.bool true) 80 (x_eql rfl rfl rfl (dT (h33))) (WL.k hK41 (WC.sb [(0,.slice (some ⟨bb,oo,none⟩) n cap),(1,vI (k:Int)),(4,vI 0),(5,vI 0),(6,vI 0),(7,vI (-1)),(8,vI (nx1:Int)),(9,vI (d1:Int)),(26,.bool false),(32,.bool false),(80,.bool true)] ?_));refine WC.yes rfl ?_;refine WC.seq fun K42 hK42=>WC.region (WL.z (vI 0) 4 (WL.z (vI 0) 5 (WL.z (vI (-1)) 6 (WL.k hK42 (WC.ret ?_)))));refine WQ.thenRet ?_;refine WQ.ret3 4 5 6 rfl rfl rfl rfl ?_;exact⟨0,0,-1,rfl,.inl ⟨rfl,rfl,rfl,Fail_try hO hS1 (by omega) (by have:=ht1 (by omega);omega) (by omega) h33⟩,HP.below hH7⟩
    ·
     refine WL.y (.bool false) 80 (x_eql rfl rfl rfl (dF (h33))) (WL.k hK41 (WC.sb [(0,.slice (some ⟨bb,oo,none⟩) n cap),(1,vI (k:Int)),(4,vI 0),(5,vI 0),(6,vI 0),(7,vI (-1)),(8,vI (nx1:Int)),(9,vI (d1:Int)),(26,.bool false),(32,.bool false),(80,.bool false)] ?_));refine WC.no rfl ?_;refine WC.skip (WQ.then (hK12 _ _ _ (WC.seq fun K43 hK43=>WC.region (WL.z (vI (-1)) 81 (WL.z (vI (nx1:Int)) 82 (WL.z (vI (d1:Int)) 83 (WL.z (vI (-1)) 4 (WL.z (vI (nx1:Int)) 5 (WL.z (vI (d1:Int)) 6 (WL.nil ?_))))))))));refine WQ.then (hK43 _ _ _ (WC.sb [(0,.slice (some ⟨bb,oo,none⟩) n cap),(1,vI (k:Int)),(4,vI (-1)),(5,vI (nx1:Int)),(6,vI (d1:Int)),(7,vI (-1)),(8,vI (nx1:Int)),(9,vI (d1:Int)),(26,.bool false),(32,.bool false),(80,.bool false)] (WC.ret ?_)));refine WQ.ret3 4 5 6 rfl rfl rfl rfl ?_;exact⟨-1,nx1,(d1:Int),rfl,.inr ⟨by omega,by omega,by omega,by simpa using BraS_plain hO hS1 (by omega) (by have:=ht1 (by omega);omega) (by omega)⟩,HP.below hH7⟩
theorem par_any (p:Option Addr) (n cap:Nat) (c A B:Nat→Int) (at':Nat) (hn:n≤400) (hat:at'≤n) (hb:∀ k,at'≤k→k<n→opn (c k)=true→BraC p n cap c A B k) (w:World) (hIn:InC w p n c A B) :
  Calls Tryz.prog 45 #[.slice p n cap,vI (at':Int)] w fun e w'=>∃ (nx:Nat) (d:Int),e=.returned (.tuple #[.int .i64 (nx:Int),.int .i64 d])∧PR c n at' nx d∧Below w.heap.size w w':=by
 refine calls_of Tryz.func45 rfl (m:=56) rfl [(0,.slice p n cap),(1,vI (at':Int))] (Fr_enter [.slice p n cap,vI (at':Int)] 56 (Nat.le_of_ble_eq_true rfl)) ?_;have hH1:HP Tr w w []:=HP.refl w;refine WC.seq fun K2 hK2=>WC.region (WL.z (vI 0) 4 (WL.z (vI 0) 5 (WL.k hK2 (WC.seq fun K3 hK3=>WC.region (WL.z (vI 0) 6 (WL.nil (WQ.then ?_)))))));refine hK3 _ _ _ (WC.seq fun K4 hK4=>WC.block ?_);refine WC.loop (fun kk0 ll0 ww0=>∃ (j:Nat) (d:Nat),ll0=[(0,.slice p n cap),(1,vI (j:Int)),(6,vI (d:Int))]∧kk0=n-j∧(at'≤j)∧(j≤n)∧(d+at'≤j)∧(ParS c at' j d)∧HP Tr w ww0 []) (n-at') [(0,.slice p n cap),(1,vI (at':Int)),(6,vI (0:Int))] ⟨rfl,rfl,rfl,trivial⟩ ⟨at',0,rfl,rfl,Nat.le_refl _,hat,by omega,ParS_nil _ _,hH1⟩ ?_;rintro kk l w6 ⟨j,d,rfl,hkk,hj1,hj2,hjd,hP,hH7⟩ K5 hK5;refine WC.seq fun K8 hK8=>WC.seq fun K9 hK9=>WC.region (WL.z (vI (j:Int)) 10 (WL.z (.slice p n cap) 11 (WL.z (vI (n:Int)) 12 ?_)));by_cases hlt:(j:Int)<(n:Int)
 ·
  obtain⟨bb,oo,rfl,hrow⟩:=hIn (by omega);refine WL.y (.bool true) 13 (x_lss rfl rfl rfl (dT (hlt))) (WL.z (.bool true) 14 (WL.z (.slice (some ⟨bb,oo,none⟩) n cap) 15 (WL.z (vI (j:Int)) 16 (WL.y (vP bb (oo+j*3)) 17 (x_ix (j) (oo+j*3) Tryz.underlying24 sz51) (WL.z (vP bb (oo+j*3)) 18 (WL.y (vI (c j)) 19 (x_load rfl rfl Tryz.underlying3 rfl ((HP.oldRange hH7 trivial (hrow j (by omega))) 0 _ rfl)) ?_))))));by_cases h34:c j≠34
  ·
   refine WL.y (.bool true) 20 (x_neq rfl rfl rfl (dT (h34))) (WL.z (.bool true) 21 (WL.z (.bool true) 22 (WL.z (.slice (some ⟨bb,oo,none⟩) n cap) 23 (WL.z (vI (j:Int)) 24 (WL.y (vP bb (oo+j*3)) 25 (x_ix (j) (oo+j*3) Tryz.underlying24 sz51) (WL.z (vP bb (oo+j*3)) 26 (WL.y (vI (c j)) 27 (x_load rfl rfl Tryz.underlying3 rfl ((HP.oldRange hH7 trivial (hrow j (by omega))) 0 _ rfl)) ?_)))))));by_cases h35:c j≠35
   ·
    refine WL.y (.bool true) 28 (x_neq rfl rfl rfl (dT (h35))) (WL.z (.bool true) 29 (WL.k hK9 (WC.sb [(0,.slice (some ⟨bb,oo,none⟩) n cap),(1,vI (j:Int)),(6,vI (d:Int)),(29,.bool true)] ?_)));refine WC.yes rfl ?_;refine WC.skip (WQ.then (hK8 _ _ _ (WC.block (WC.seq fun K10 hK10=>WC.seq fun K11 hK11=>WC.region (WL.z (.slice (some ⟨bb,oo,none⟩) n cap) 30 (WL.z (vI (j:Int)) 31 (WL.y (vP bb (oo+j*3)) 32 (x_ix (j) (oo+j*3) Tryz.underlying24 sz51) (WL.z (vP bb (oo+j*3)) 33 (WL.y (vI (c j)) 34 (x_load rfl rfl Tryz.underlying3 rfl ((HP.oldRange hH7 trivial (hrow j (by omega))) 0 _ rfl)) ?_)))))))));refine WL.c 48 #[vI (c j)] 35 ?_;refine(rOpens_any _ _).mono ?_;rintro e w12 ⟨rfl,rfl⟩;refine⟨_,rfl,?_⟩;refine WL.z (.bool (!(opn (c j)))) 36 (WL.k hK11 (WC.sb [(0,.slice (some ⟨bb,oo,none⟩) n cap),(1,vI (j:Int)),(6,vI (d:Int)),(29,.bool true),(36,.bool (!(opn (c j))))] ?_));rcases Bool.eq_false_or_eq_true (opn (c j)) with hO | hO
    ·
     refine WC.no (congrArg (fun b=>some (Value.bool (!b))) hO) ?_;refine WC.skip (WQ.then (hK10 _ _ _ (WC.seq fun K13 hK13=>WC.region (WL.z (.slice (some ⟨bb,oo,none⟩) n cap) 40 (WL.z (vI (j:Int)) 41 ?_)))));refine WL.c 49 #[.slice (some ⟨bb,oo,none⟩) n cap,vI (j:Int)] 42 ?_;refine(hb j (by omega) (by omega) hO _ (hIn.below (HP.below hH7))).mono ?_;rintro e w14 ⟨a1,e1,x1,rfl,hBR,hb15⟩;refine⟨_,rfl,?_⟩;have hH16:=HP.call hH7 hb15;refine WL.z (.tuple #[vI a1,vI (e1:Int),vI x1]) 39 (WL.z (vI a1) 43 (WL.z (vI (e1:Int)) 44 (WL.z (vI x1) 45 (WL.z (vI a1) 7 (WL.z (vI (e1:Int)) 8 (WL.z (vI x1) 9 (WL.k hK13 (WC.sb [(0,.slice (some ⟨bb,oo,none⟩) n cap),(1,vI (j:Int)),(6,vI (d:Int)),(8,vI (e1:Int)),(9,vI x1),(29,.bool true),(36,.bool (!(opn (c j))))] (WC.seq fun K17 hK17=>?_)))))))));refine WC.seq fun K18 hK18=>WC.region (WL.z (vI x1) 46 ?_);by_cases hd:x1<0
     ·
      refine WL.y (.bool true) 47 (x_lss rfl rfl rfl (dT (hd))) (WL.k hK18 ?_);refine WC.yes rfl ?_;refine WC.seq fun K19 hK19=>WC.region (WL.z (vI 0) 4 (WL.z (vI (-1)) 5 (WL.k hK19 (WC.ret ?_))));refine WQ.thenRet ?_;refine WQ.inRet ?_;refine WQ.thenRet ?_;refine WQ.inRet ?_;refine WQ.thenRet ?_;refine WQ.ret2 4 5 rfl rfl rfl ?_;exact⟨0,-1,rfl,.inl ⟨rfl,rfl,Fail_par hP (BR_bad hBR hd)⟩,HP.below hH16⟩
     ·
      obtain⟨d2,rfl,h1,h2,hBS⟩:=BR_ok hBR hd;refine WL.y (.bool false) 47 (x_lss rfl rfl rfl (dF (hd))) (WL.k hK18 ?_);refine WC.no rfl ?_;refine WC.skip (WQ.then (hK17 _ _ _ (WC.seq fun K20 hK20=>WC.region (WL.z (vI (d:Int)) 48 (WL.z (vI (d2:Int)) 49 (WL.y (vI ((d2+1:Nat):Int)) 50 (x_ad (((d2+1:Nat):Int))) (WL.y (vI ((max d (d2+1):Nat):Int)) 51 (x_max (Z:=((max d (d2+1):Nat):Int)) (t:=0) rfl rfl rfl (by split <;> omega)) (WL.z (vI ((max d (d2+1):Nat):Int)) 6 (WL.nil (WQ.then ?_))))))))));refine hK20 _ _ _ (WC.sb [(0,.slice (some ⟨bb,oo,none⟩) n cap),(1,vI (j:Int)),(6,vI ((max d (d2+1):Nat):Int)),(8,vI (e1:Int)),(9,vI (d2:Int)),(29,.bool true),(36,.bool (!(opn (c j)))),(47,.bool false)] (WC.region (WL.z (vI (e1:Int)) 52 (WL.y (vI ((e1+1:Nat):Int)) 53 (x_ad (((e1+1:Nat):Int))) (WL.z (vI ((e1+1:Nat):Int)) 1 (WL.nil (WQ.inNormal (WQ.sb [(0,.slice (some ⟨bb,oo,none⟩) n cap),(1,vI ((e1+1:Nat):Int)),(6,vI ((max d (d2+1):Nat):Int))] ?_))))))));refine WQ.then (hK5 _ _ _ (by omega) ⟨e1+1,max d (d2+1),rfl,rfl,by omega,by omega,by omega,ParS_bra hP (by omega) hBS,hH16⟩)
    ·
     refine WC.yes (congrArg (fun b=>some (Value.bool (!b))) hO) ?_;refine WC.seq fun K21 hK21=>WC.region (WL.z (vI (j:Int)) 37 (WL.y (vI ((j+1:Nat):Int)) 38 (x_ad (((j+1:Nat):Int))) (WL.z (vI ((j+1:Nat):Int)) 1 (WL.k hK21 (WC.exit (WQ.thenExit (WQ.inExit (WQ.sb [(0,.slice (some ⟨bb,oo,none⟩) n cap),(1,vI ((j+1:Nat):Int)),(6,vI (d:Int))] ?_))))))));refine WQ.then (hK5 _ _ _ (by omega) ⟨j+1,d,rfl,rfl,by omega,by omega,by omega,ParS_other hP (by omega) hO h34 h35,hH7⟩)
   ·
    refine WL.y (.bool false) 28 (x_neq rfl rfl rfl (dF (h35))) (WL.z (.bool false) 29 (WL.k hK9 (WC.sb [(0,.slice (some ⟨bb,oo,none⟩) n cap),(1,vI (j:Int)),(6,vI (d:Int)),(29,.bool false)] ?_)));refine WC.no rfl ?_;refine WC.exit (WQ.thenExit (WQ.thenExit (WQ.inExit (WQ.then (hK4 _ _ _ (WC.seq fun K22 hK22=>WC.region (WL.z (vI (j:Int)) 54 (WL.z (vI (d:Int)) 55 (WL.z (vI (j:Int)) 4 (WL.z (vI (d:Int)) 5 ?_))))))))));refine WL.k hK22 (WC.ret ?_);refine WQ.ret2 4 5 rfl rfl rfl ?_;exact⟨j,(d:Int),rfl,.inr ⟨by omega,by omega,by omega,fun hq=>by omega,by simpa using hP⟩,HP.below hH7⟩
  ·
   refine WL.y (.bool false) 20 (x_neq rfl rfl rfl (dF (h34))) (WL.z (.bool false) 21 (WL.z (.bool false) 22 (WL.p 23 (WL.p 24 (WL.p 25 (WL.p 26 (WL.p 27 (WL.p 28 (WL.z (.bool false) 29 (WL.nil (WQ.then ?_)))))))))));refine hK9 _ _ _ (WC.sb [(0,.slice (some ⟨bb,oo,none⟩) n cap),(1,vI (j:Int)),(6,vI (d:Int)),(29,.bool false)] ?_);refine WC.no rfl ?_;refine WC.exit (WQ.thenExit (WQ.thenExit (WQ.inExit (WQ.then (hK4 _ _ _ (WC.seq fun K23 hK23=>WC.region (WL.z (vI (j:Int)) 54 (WL.z (vI (d:Int)) 55 (WL.z (vI (j:Int)) 4 (WL.z (vI (d:Int)) 5 ?_))))))))));refine WL.k hK23 (WC.ret ?_);refine WQ.ret2 4 5 rfl rfl rfl ?_;exact⟨j,(d:Int),rfl,.inr ⟨by omega,by omega,by omega,fun hq=>by omega,by simpa using hP⟩,HP.below hH7⟩
 ·
  refine WL.y (.bool false) 13 (x_lss rfl rfl rfl (dF (hlt))) (WL.z (.bool false) 14 (WL.p 15 (WL.p 16 (WL.p 17 (WL.p 18 (WL.p 19 (WL.p 20 (WL.z (.bool false) 21 (WL.z (.bool false) 22 (WL.p 23 (WL.p 24 ?_)))))))))));refine WL.p 25 (WL.p 26 (WL.p 27 (WL.p 28 (WL.z (.bool false) 29 (WL.k hK9 (WC.sb [(0,.slice p n cap),(1,vI (j:Int)),(6,vI (d:Int)),(29,.bool false)] ?_))))));refine WC.no rfl ?_;refine WC.exit (WQ.thenExit (WQ.thenExit (WQ.inExit (WQ.then (hK4 _ _ _ (WC.seq fun K24 hK24=>WC.region (WL.z (vI (j:Int)) 54 (WL.z (vI (d:Int)) 55 (WL.z (vI (j:Int)) 4 (WL.z (vI (d:Int)) 5 ?_))))))))));refine WL.k hK24 (WC.ret ?_);refine WQ.ret2 4 5 rfl rfl rfl ?_;exact⟨j,(d:Int),rfl,.inr ⟨by omega,by omega,by omega,fun hq=>by omega,by simpa using hP⟩,HP.below hH7⟩
theorem both (p:Option Addr) (n cap:Nat) (c A B:Nat→Int) (hn:n≤400):∀ (f at':Nat),n-at'≤f→at'≤n→ParC p n cap c A B at'
  | 0,at',hf,hat=>par_any p n cap c A B at' hn hat (fun k h1 h2 _=>absurd h1 (by omega))
  | f+1,at',hf,hat=>par_any p n cap c A B at' hn hat (fun k h1 h2 hO=>bra_any p n cap c A B k hn h2 hO (fun a ha1 ha2=>both p n cap c A B hn f a (by omega) ha2))
theorem parts_any (p:Option Addr) (n cap:Nat) (c A B:Nat→Int) (hn:n≤400) (at':Nat) (h:at'≤n):ParC p n cap c A B at':=both p n cap c A B hn n at' (by omega) h
theorem bracket_any (p:Option Addr) (n cap:Nat) (c A B:Nat→Int) (hn:n≤400) (k:Nat) (h:k<n) (hO:opn (c k)=true):BraC p n cap c A B k:=bra_any p n cap c A B k hn h hO (fun a _ ha=>parts_any p n cap c A B hn a ha)
end Ec
end Go.Proofs.YtmjnakhpekbenaaGreat
namespace Go.Proofs.YtmjnakhpekbenaaGreat
open Go.RowKit Go.Sort
namespace Ec
set_option maxHeartbeats 4000000 in
theorem rValid_0 (a b:Int) (p:Bool) (w:World) :
    Calls Tryz.prog 44 #[.agg #[.int .i64 0,.int .i64 a,.int .i64 b],.bool p] w fun e w'=>e=.returned (.bool (vld 0 a b p))∧Below w.heap.size w w':=by
  have HV:=hide (vld_nat 0 (by omega) a b p);have s1:(sp 0).a=0:=rfl;have s2:(sp 0).b=0:=rfl;rw [s1,s2] at HV;clear s1 s2;by_cases hb:b=0
  · subst hb
    by_cases ha:a=0
    · subst ha
      go_enter Tryz.func44,Tryz.ntmps44;go_wp2_with (first | (go_at_call 74;refine(rOperands_0 _).mono ?_;rintro e ws ⟨rfl,rfl⟩) | (go_at_call 75;refine(rin_any _ _ _ _).mono ?_;rintro e ws ⟨rfl,rfl⟩) | (go_at_call 76;refine(rmost_10 _ _).mono ?_;rintro e ws ⟨rfl,rfl⟩) | (go_at_call 76;refine(rmost_7 _ _).mono ?_;rintro e ws ⟨rfl,rfl⟩) | (go_at_call 76;refine(rmost_16 _ _).mono ?_;rintro e ws ⟨rfl,rfl⟩));go_ret;exact⟨ret_b (Eq.trans (by first | (simp [rng,mosts,rmo];done) | (simp [rng,mosts,rmo];omega) | (rw [Bool.eq_iff_iff];simp [rng,mosts,rmo] <;> omega)) HV.out.symm),by go_grown⟩
    · have ha2 : (a == 0) = false := by simpa using ha
      have ha3:(a != 0)=true:=(by simpa using ha);go_enter Tryz.func44,Tryz.ntmps44;go_wp2_with (first | (go_at_call 74;refine(rOperands_0 _).mono ?_;rintro e ws ⟨rfl,rfl⟩) | (go_at_call 75;refine(rin_any _ _ _ _).mono ?_;rintro e ws ⟨rfl,rfl⟩) | (go_at_call 76;refine(rmost_10 _ _).mono ?_;rintro e ws ⟨rfl,rfl⟩) | (go_at_call 76;refine(rmost_7 _ _).mono ?_;rintro e ws ⟨rfl,rfl⟩) | (go_at_call 76;refine(rmost_16 _ _).mono ?_;rintro e ws ⟨rfl,rfl⟩));go_ret;exact⟨ret_b (Eq.trans (by first | (simp [rng,mosts,rmo,ha];done) | (simp [rng,mosts,rmo,ha];omega) | (rw [Bool.eq_iff_iff];simp [rng,mosts,rmo,ha] <;> omega)) HV.out.symm),by go_grown⟩
  · have hb2 : (b == 0) = false := by simpa using hb
    have hb3:(b != 0)=true:=(by simpa using hb);go_enter Tryz.func44,Tryz.ntmps44;go_wp2_with (first | (go_at_call 74;refine(rOperands_0 _).mono ?_;rintro e ws ⟨rfl,rfl⟩) | (go_at_call 75;refine(rin_any _ _ _ _).mono ?_;rintro e ws ⟨rfl,rfl⟩) | (go_at_call 76;refine(rmost_10 _ _).mono ?_;rintro e ws ⟨rfl,rfl⟩) | (go_at_call 76;refine(rmost_7 _ _).mono ?_;rintro e ws ⟨rfl,rfl⟩) | (go_at_call 76;refine(rmost_16 _ _).mono ?_;rintro e ws ⟨rfl,rfl⟩));go_ret;exact⟨ret_b (Eq.trans (by first | (simp [rng,mosts,rmo,hb];done) | (simp [rng,mosts,rmo,hb];omega) | (rw [Bool.eq_iff_iff];simp [rng,mosts,rmo,hb] <;> omega)) HV.out.symm),by go_grown⟩
set_option maxHeartbeats 4000000 in
theorem rValid_1 (a b:Int) (p:Bool) (w:World) :
    Calls Tryz.prog 44 #[.agg #[.int .i64 1,.int .i64 a,.int .i64 b],.bool p] w fun e w'=>e=.returned (.bool (vld 1 a b p))∧Below w.heap.size w w':=by
  have HV:=hide (vld_nat 1 (by omega) a b p);have s1:(sp 1).a=1:=rfl;have s2:(sp 1).b=0:=rfl;rw [s1,s2] at HV;clear s1 s2;by_cases hb:b=0
  · subst hb
    go_enter Tryz.func44,Tryz.ntmps44;go_wp2_with (first | (go_at_call 74;refine(rOperands_1 _).mono ?_;rintro e ws ⟨rfl,rfl⟩) | (go_at_call 75;refine(rin_any _ _ _ _).mono ?_;rintro e ws ⟨rfl,rfl⟩) | (go_at_call 76;refine(rmost_10 _ _).mono ?_;rintro e ws ⟨rfl,rfl⟩) | (go_at_call 76;refine(rmost_7 _ _).mono ?_;rintro e ws ⟨rfl,rfl⟩) | (go_at_call 76;refine(rmost_16 _ _).mono ?_;rintro e ws ⟨rfl,rfl⟩));go_ret;exact⟨ret_b (Eq.trans (by first | (simp [rng,mosts,rmo];done) | (simp [rng,mosts,rmo];omega) | (rw [Bool.eq_iff_iff];simp [rng,mosts,rmo] <;> omega)) HV.out.symm),by go_grown⟩
  · have hb2 : (b == 0) = false := by simpa using hb
    have hb3:(b != 0)=true:=(by simpa using hb);go_enter Tryz.func44,Tryz.ntmps44;go_wp2_with (first | (go_at_call 74;refine(rOperands_1 _).mono ?_;rintro e ws ⟨rfl,rfl⟩) | (go_at_call 75;refine(rin_any _ _ _ _).mono ?_;rintro e ws ⟨rfl,rfl⟩) | (go_at_call 76;refine(rmost_10 _ _).mono ?_;rintro e ws ⟨rfl,rfl⟩) | (go_at_call 76;refine(rmost_7 _ _).mono ?_;rintro e ws ⟨rfl,rfl⟩) | (go_at_call 76;refine(rmost_16 _ _).mono ?_;rintro e ws ⟨rfl,rfl⟩));go_ret;exact⟨ret_b (Eq.trans (by first | (simp [rng,mosts,rmo,hb];done) | (simp [rng,mosts,rmo,hb];omega) | (rw [Bool.eq_iff_iff];simp [rng,mosts,rmo,hb] <;> omega)) HV.out.symm),by go_grown⟩
set_option maxHeartbeats 4000000 in
theorem rValid_2 (a b:Int) (p:Bool) (w:World) :
    Calls Tryz.prog 44 #[.agg #[.int .i64 2,.int .i64 a,.int .i64 b],.bool p] w fun e w'=>e=.returned (.bool (vld 2 a b p))∧Below w.heap.size w w':=by
  have HV:=hide (vld_nat 2 (by omega) a b p);have s1:(sp 2).a=2:=rfl;have s2:(sp 2).b=0:=rfl;rw [s1,s2] at HV;clear s1 s2;by_cases hb:b=0
  · subst hb
    go_enter Tryz.func44,Tryz.ntmps44;go_wp2_with (first | (go_at_call 74;refine(rOperands_2 _).mono ?_;rintro e ws ⟨rfl,rfl⟩) | (go_at_call 75;refine(rin_any _ _ _ _).mono ?_;rintro e ws ⟨rfl,rfl⟩) | (go_at_call 76;refine(rmost_10 _ _).mono ?_;rintro e ws ⟨rfl,rfl⟩) | (go_at_call 76;refine(rmost_7 _ _).mono ?_;rintro e ws ⟨rfl,rfl⟩) | (go_at_call 76;refine(rmost_16 _ _).mono ?_;rintro e ws ⟨rfl,rfl⟩));go_ret;exact⟨ret_b (Eq.trans (by first | (simp [rng,mosts,rmo];done) | (simp [rng,mosts,rmo];omega) | (rw [Bool.eq_iff_iff];simp [rng,mosts,rmo] <;> omega)) HV.out.symm),by go_grown⟩
  · have hb2 : (b == 0) = false := by simpa using hb
    have hb3:(b != 0)=true:=(by simpa using hb);go_enter Tryz.func44,Tryz.ntmps44;go_wp2_with (first | (go_at_call 74;refine(rOperands_2 _).mono ?_;rintro e ws ⟨rfl,rfl⟩) | (go_at_call 75;refine(rin_any _ _ _ _).mono ?_;rintro e ws ⟨rfl,rfl⟩) | (go_at_call 76;refine(rmost_10 _ _).mono ?_;rintro e ws ⟨rfl,rfl⟩) | (go_at_call 76;refine(rmost_7 _ _).mono ?_;rintro e ws ⟨rfl,rfl⟩) | (go_at_call 76;refine(rmost_16 _ _).mono ?_;rintro e ws ⟨rfl,rfl⟩));go_ret;exact⟨ret_b (Eq.trans (by first | (simp [rng,mosts,rmo,hb];done) | (simp [rng,mosts,rmo,hb];omega) | (rw [Bool.eq_iff_iff];simp [rng,mosts,rmo,hb] <;> omega)) HV.out.symm),by go_grown⟩
set_option maxHeartbeats 4000000 in
theorem rValid_3 (a b:Int) (p:Bool) (w:World) :
    Calls Tryz.prog 44 #[.agg #[.int .i64 3,.int .i64 a,.int .i64 b],.bool p] w fun e w'=>e=.returned (.bool (vld 3 a b p))∧Below w.heap.size w w':=by
  have HV:=hide (vld_nat 3 (by omega) a b p);have s1:(sp 3).a=2:=rfl;have s2:(sp 3).b=0:=rfl;rw [s1,s2] at HV;clear s1 s2;by_cases hb:b=0
  · subst hb
    go_enter Tryz.func44,Tryz.ntmps44;go_wp2_with (first | (go_at_call 74;refine(rOperands_3 _).mono ?_;rintro e ws ⟨rfl,rfl⟩) | (go_at_call 75;refine(rin_any _ _ _ _).mono ?_;rintro e ws ⟨rfl,rfl⟩) | (go_at_call 76;refine(rmost_10 _ _).mono ?_;rintro e ws ⟨rfl,rfl⟩) | (go_at_call 76;refine(rmost_7 _ _).mono ?_;rintro e ws ⟨rfl,rfl⟩) | (go_at_call 76;refine(rmost_16 _ _).mono ?_;rintro e ws ⟨rfl,rfl⟩));go_ret;exact⟨ret_b (Eq.trans (by first | (simp [rng,mosts,rmo];done) | (simp [rng,mosts,rmo];omega) | (rw [Bool.eq_iff_iff];simp [rng,mosts,rmo] <;> omega)) HV.out.symm),by go_grown⟩
  · have hb2 : (b == 0) = false := by simpa using hb
    have hb3:(b != 0)=true:=(by simpa using hb);go_enter Tryz.func44,Tryz.ntmps44;go_wp2_with (first | (go_at_call 74;refine(rOperands_3 _).mono ?_;rintro e ws ⟨rfl,rfl⟩) | (go_at_call 75;refine(rin_any _ _ _ _).mono ?_;rintro e ws ⟨rfl,rfl⟩) | (go_at_call 76;refine(rmost_10 _ _).mono ?_;rintro e ws ⟨rfl,rfl⟩) | (go_at_call 76;refine(rmost_7 _ _).mono ?_;rintro e ws ⟨rfl,rfl⟩) | (go_at_call 76;refine(rmost_16 _ _).mono ?_;rintro e ws ⟨rfl,rfl⟩));go_ret;exact⟨ret_b (Eq.trans (by first | (simp [rng,mosts,rmo,hb];done) | (simp [rng,mosts,rmo,hb];omega) | (rw [Bool.eq_iff_iff];simp [rng,mosts,rmo,hb] <;> omega)) HV.out.symm),by go_grown⟩
set_option maxHeartbeats 4000000 in
theorem rValid_4 (a b:Int) (p:Bool) (w:World) :
    Calls Tryz.prog 44 #[.agg #[.int .i64 4,.int .i64 a,.int .i64 b],.bool p] w fun e w'=>e=.returned (.bool (vld 4 a b p))∧Below w.heap.size w w':=by
  have HV:=hide (vld_nat 4 (by omega) a b p);have s1:(sp 4).a=0:=rfl;have s2:(sp 4).b=0:=rfl;rw [s1,s2] at HV;clear s1 s2;by_cases hb:b=0
  · subst hb
    by_cases ha:a=0
    · subst ha
      go_enter Tryz.func44,Tryz.ntmps44;go_wp2_with (first | (go_at_call 74;refine(rOperands_4 _).mono ?_;rintro e ws ⟨rfl,rfl⟩) | (go_at_call 75;refine(rin_any _ _ _ _).mono ?_;rintro e ws ⟨rfl,rfl⟩) | (go_at_call 76;refine(rmost_10 _ _).mono ?_;rintro e ws ⟨rfl,rfl⟩) | (go_at_call 76;refine(rmost_7 _ _).mono ?_;rintro e ws ⟨rfl,rfl⟩) | (go_at_call 76;refine(rmost_16 _ _).mono ?_;rintro e ws ⟨rfl,rfl⟩));go_ret;exact⟨ret_b (Eq.trans (by first | (simp [rng,mosts,rmo];done) | (simp [rng,mosts,rmo];omega) | (rw [Bool.eq_iff_iff];simp [rng,mosts,rmo] <;> omega)) HV.out.symm),by go_grown⟩
    · have ha2 : (a == 0) = false := by simpa using ha
      have ha3:(a != 0)=true:=(by simpa using ha);go_enter Tryz.func44,Tryz.ntmps44;go_wp2_with (first | (go_at_call 74;refine(rOperands_4 _).mono ?_;rintro e ws ⟨rfl,rfl⟩) | (go_at_call 75;refine(rin_any _ _ _ _).mono ?_;rintro e ws ⟨rfl,rfl⟩) | (go_at_call 76;refine(rmost_10 _ _).mono ?_;rintro e ws ⟨rfl,rfl⟩) | (go_at_call 76;refine(rmost_7 _ _).mono ?_;rintro e ws ⟨rfl,rfl⟩) | (go_at_call 76;refine(rmost_16 _ _).mono ?_;rintro e ws ⟨rfl,rfl⟩));go_ret;exact⟨ret_b (Eq.trans (by first | (simp [rng,mosts,rmo,ha];done) | (simp [rng,mosts,rmo,ha];omega) | (rw [Bool.eq_iff_iff];simp [rng,mosts,rmo,ha] <;> omega)) HV.out.symm),by go_grown⟩
  · have hb2 : (b == 0) = false := by simpa using hb
    have hb3:(b != 0)=true:=(by simpa using hb);go_enter Tryz.func44,Tryz.ntmps44;go_wp2_with (first | (go_at_call 74;refine(rOperands_4 _).mono ?_;rintro e ws ⟨rfl,rfl⟩) | (go_at_call 75;refine(rin_any _ _ _ _).mono ?_;rintro e ws ⟨rfl,rfl⟩) | (go_at_call 76;refine(rmost_10 _ _).mono ?_;rintro e ws ⟨rfl,rfl⟩) | (go_at_call 76;refine(rmost_7 _ _).mono ?_;rintro e ws ⟨rfl,rfl⟩) | (go_at_call 76;refine(rmost_16 _ _).mono ?_;rintro e ws ⟨rfl,rfl⟩));go_ret;exact⟨ret_b (Eq.trans (by first | (simp [rng,mosts,rmo,hb];done) | (simp [rng,mosts,rmo,hb];omega) | (rw [Bool.eq_iff_iff];simp [rng,mosts,rmo,hb] <;> omega)) HV.out.symm),by go_grown⟩
set_option maxHeartbeats 4000000 in
theorem rValid_5 (a b:Int) (p:Bool) (w:World) :
    Calls Tryz.prog 44 #[.agg #[.int .i64 5,.int .i64 a,.int .i64 b],.bool p] w fun e w'=>e=.returned (.bool (vld 5 a b p))∧Below w.heap.size w w':=by
  have HV:=hide (vld_nat 5 (by omega) a b p);have s1:(sp 5).a=0:=rfl;have s2:(sp 5).b=0:=rfl;rw [s1,s2] at HV;clear s1 s2;by_cases hb:b=0
  · subst hb
    by_cases ha:a=0
    · subst ha
      go_enter Tryz.func44,Tryz.ntmps44;go_wp2_with (first | (go_at_call 74;refine(rOperands_5 _).mono ?_;rintro e ws ⟨rfl,rfl⟩) | (go_at_call 75;refine(rin_any _ _ _ _).mono ?_;rintro e ws ⟨rfl,rfl⟩) | (go_at_call 76;refine(rmost_10 _ _).mono ?_;rintro e ws ⟨rfl,rfl⟩) | (go_at_call 76;refine(rmost_7 _ _).mono ?_;rintro e ws ⟨rfl,rfl⟩) | (go_at_call 76;refine(rmost_16 _ _).mono ?_;rintro e ws ⟨rfl,rfl⟩));go_ret;exact⟨ret_b (Eq.trans (by first | (simp [rng,mosts,rmo];done) | (simp [rng,mosts,rmo];omega) | (rw [Bool.eq_iff_iff];simp [rng,mosts,rmo] <;> omega)) HV.out.symm),by go_grown⟩
    · have ha2 : (a == 0) = false := by simpa using ha
      have ha3:(a != 0)=true:=(by simpa using ha);go_enter Tryz.func44,Tryz.ntmps44;go_wp2_with (first | (go_at_call 74;refine(rOperands_5 _).mono ?_;rintro e ws ⟨rfl,rfl⟩) | (go_at_call 75;refine(rin_any _ _ _ _).mono ?_;rintro e ws ⟨rfl,rfl⟩) | (go_at_call 76;refine(rmost_10 _ _).mono ?_;rintro e ws ⟨rfl,rfl⟩) | (go_at_call 76;refine(rmost_7 _ _).mono ?_;rintro e ws ⟨rfl,rfl⟩) | (go_at_call 76;refine(rmost_16 _ _).mono ?_;rintro e ws ⟨rfl,rfl⟩));go_ret;exact⟨ret_b (Eq.trans (by first | (simp [rng,mosts,rmo,ha];done) | (simp [rng,mosts,rmo,ha];omega) | (rw [Bool.eq_iff_iff];simp [rng,mosts,rmo,ha] <;> omega)) HV.out.symm),by go_grown⟩
  · have hb2 : (b == 0) = false := by simpa using hb
    have hb3:(b != 0)=true:=(by simpa using hb);go_enter Tryz.func44,Tryz.ntmps44;go_wp2_with (first | (go_at_call 74;refine(rOperands_5 _).mono ?_;rintro e ws ⟨rfl,rfl⟩) | (go_at_call 75;refine(rin_any _ _ _ _).mono ?_;rintro e ws ⟨rfl,rfl⟩) | (go_at_call 76;refine(rmost_10 _ _).mono ?_;rintro e ws ⟨rfl,rfl⟩) | (go_at_call 76;refine(rmost_7 _ _).mono ?_;rintro e ws ⟨rfl,rfl⟩) | (go_at_call 76;refine(rmost_16 _ _).mono ?_;rintro e ws ⟨rfl,rfl⟩));go_ret;exact⟨ret_b (Eq.trans (by first | (simp [rng,mosts,rmo,hb];done) | (simp [rng,mosts,rmo,hb];omega) | (rw [Bool.eq_iff_iff];simp [rng,mosts,rmo,hb] <;> omega)) HV.out.symm),by go_grown⟩
set_option maxHeartbeats 4000000 in
theorem rValid_6 (a b:Int) (p:Bool) (w:World) :
    Calls Tryz.prog 44 #[.agg #[.int .i64 6,.int .i64 a,.int .i64 b],.bool p] w fun e w'=>e=.returned (.bool (vld 6 a b p))∧Below w.heap.size w w':=by
  have HV:=hide (vld_nat 6 (by omega) a b p);have s1:(sp 6).a=0:=rfl;have s2:(sp 6).b=0:=rfl;rw [s1,s2] at HV;clear s1 s2;by_cases hb:b=0
  · subst hb
    by_cases ha:a=0
    · subst ha
      go_enter Tryz.func44,Tryz.ntmps44;go_wp2_with (first | (go_at_call 74;refine(rOperands_6 _).mono ?_;rintro e ws ⟨rfl,rfl⟩) | (go_at_call 75;refine(rin_any _ _ _ _).mono ?_;rintro e ws ⟨rfl,rfl⟩) | (go_at_call 76;refine(rmost_10 _ _).mono ?_;rintro e ws ⟨rfl,rfl⟩) | (go_at_call 76;refine(rmost_7 _ _).mono ?_;rintro e ws ⟨rfl,rfl⟩) | (go_at_call 76;refine(rmost_16 _ _).mono ?_;rintro e ws ⟨rfl,rfl⟩));go_ret;exact⟨ret_b (Eq.trans (by first | (simp [rng,mosts,rmo];done) | (simp [rng,mosts,rmo];omega) | (rw [Bool.eq_iff_iff];simp [rng,mosts,rmo] <;> omega)) HV.out.symm),by go_grown⟩
    · have ha2 : (a == 0) = false := by simpa using ha
      have ha3:(a != 0)=true:=(by simpa using ha);go_enter Tryz.func44,Tryz.ntmps44;go_wp2_with (first | (go_at_call 74;refine(rOperands_6 _).mono ?_;rintro e ws ⟨rfl,rfl⟩) | (go_at_call 75;refine(rin_any _ _ _ _).mono ?_;rintro e ws ⟨rfl,rfl⟩) | (go_at_call 76;refine(rmost_10 _ _).mono ?_;rintro e ws ⟨rfl,rfl⟩) | (go_at_call 76;refine(rmost_7 _ _).mono ?_;rintro e ws ⟨rfl,rfl⟩) | (go_at_call 76;refine(rmost_16 _ _).mono ?_;rintro e ws ⟨rfl,rfl⟩));go_ret;exact⟨ret_b (Eq.trans (by first | (simp [rng,mosts,rmo,ha];done) | (simp [rng,mosts,rmo,ha];omega) | (rw [Bool.eq_iff_iff];simp [rng,mosts,rmo,ha] <;> omega)) HV.out.symm),by go_grown⟩
  · have hb2 : (b == 0) = false := by simpa using hb
    have hb3:(b != 0)=true:=(by simpa using hb);go_enter Tryz.func44,Tryz.ntmps44;go_wp2_with (first | (go_at_call 74;refine(rOperands_6 _).mono ?_;rintro e ws ⟨rfl,rfl⟩) | (go_at_call 75;refine(rin_any _ _ _ _).mono ?_;rintro e ws ⟨rfl,rfl⟩) | (go_at_call 76;refine(rmost_10 _ _).mono ?_;rintro e ws ⟨rfl,rfl⟩) | (go_at_call 76;refine(rmost_7 _ _).mono ?_;rintro e ws ⟨rfl,rfl⟩) | (go_at_call 76;refine(rmost_16 _ _).mono ?_;rintro e ws ⟨rfl,rfl⟩));go_ret;exact⟨ret_b (Eq.trans (by first | (simp [rng,mosts,rmo,hb];done) | (simp [rng,mosts,rmo,hb];omega) | (rw [Bool.eq_iff_iff];simp [rng,mosts,rmo,hb] <;> omega)) HV.out.symm),by go_grown⟩
set_option maxHeartbeats 4000000 in
theorem rValid_7 (a b:Int) (p:Bool) (w:World) :
    Calls Tryz.prog 44 #[.agg #[.int .i64 7,.int .i64 a,.int .i64 b],.bool p] w fun e w'=>e=.returned (.bool (vld 7 a b p))∧Below w.heap.size w w':=by
  have HV:=hide (vld_nat 7 (by omega) a b p);have s1:(sp 7).a=0:=rfl;have s2:(sp 7).b=0:=rfl;rw [s1,s2] at HV;clear s1 s2;by_cases hb:b=0
  · subst hb
    by_cases ha:a=0
    · subst ha
      go_enter Tryz.func44,Tryz.ntmps44;go_wp2_with (first | (go_at_call 74;refine(rOperands_7 _).mono ?_;rintro e ws ⟨rfl,rfl⟩) | (go_at_call 75;refine(rin_any _ _ _ _).mono ?_;rintro e ws ⟨rfl,rfl⟩) | (go_at_call 76;refine(rmost_10 _ _).mono ?_;rintro e ws ⟨rfl,rfl⟩) | (go_at_call 76;refine(rmost_7 _ _).mono ?_;rintro e ws ⟨rfl,rfl⟩) | (go_at_call 76;refine(rmost_16 _ _).mono ?_;rintro e ws ⟨rfl,rfl⟩));go_ret;exact⟨ret_b (Eq.trans (by first | (simp [rng,mosts,rmo];done) | (simp [rng,mosts,rmo];omega) | (rw [Bool.eq_iff_iff];simp [rng,mosts,rmo] <;> omega)) HV.out.symm),by go_grown⟩
    · have ha2 : (a == 0) = false := by simpa using ha
      have ha3:(a != 0)=true:=(by simpa using ha);go_enter Tryz.func44,Tryz.ntmps44;go_wp2_with (first | (go_at_call 74;refine(rOperands_7 _).mono ?_;rintro e ws ⟨rfl,rfl⟩) | (go_at_call 75;refine(rin_any _ _ _ _).mono ?_;rintro e ws ⟨rfl,rfl⟩) | (go_at_call 76;refine(rmost_10 _ _).mono ?_;rintro e ws ⟨rfl,rfl⟩) | (go_at_call 76;refine(rmost_7 _ _).mono ?_;rintro e ws ⟨rfl,rfl⟩) | (go_at_call 76;refine(rmost_16 _ _).mono ?_;rintro e ws ⟨rfl,rfl⟩));go_ret;exact⟨ret_b (Eq.trans (by first | (simp [rng,mosts,rmo,ha];done) | (simp [rng,mosts,rmo,ha];omega) | (rw [Bool.eq_iff_iff];simp [rng,mosts,rmo,ha] <;> omega)) HV.out.symm),by go_grown⟩
  · have hb2 : (b == 0) = false := by simpa using hb
    have hb3:(b != 0)=true:=(by simpa using hb);go_enter Tryz.func44,Tryz.ntmps44;go_wp2_with (first | (go_at_call 74;refine(rOperands_7 _).mono ?_;rintro e ws ⟨rfl,rfl⟩) | (go_at_call 75;refine(rin_any _ _ _ _).mono ?_;rintro e ws ⟨rfl,rfl⟩) | (go_at_call 76;refine(rmost_10 _ _).mono ?_;rintro e ws ⟨rfl,rfl⟩) | (go_at_call 76;refine(rmost_7 _ _).mono ?_;rintro e ws ⟨rfl,rfl⟩) | (go_at_call 76;refine(rmost_16 _ _).mono ?_;rintro e ws ⟨rfl,rfl⟩));go_ret;exact⟨ret_b (Eq.trans (by first | (simp [rng,mosts,rmo,hb];done) | (simp [rng,mosts,rmo,hb];omega) | (rw [Bool.eq_iff_iff];simp [rng,mosts,rmo,hb] <;> omega)) HV.out.symm),by go_grown⟩
set_option maxHeartbeats 4000000 in
theorem rValid_8 (a b:Int) (p:Bool) (w:World) :
    Calls Tryz.prog 44 #[.agg #[.int .i64 8,.int .i64 a,.int .i64 b],.bool p] w fun e w'=>e=.returned (.bool (vld 8 a b p))∧Below w.heap.size w w':=by
  have HV:=hide (vld_nat 8 (by omega) a b p);have s1:(sp 8).a=0:=rfl;have s2:(sp 8).b=0:=rfl;rw [s1,s2] at HV;clear s1 s2;by_cases hb:b=0
  · subst hb
    by_cases ha:a=0
    · subst ha
      go_enter Tryz.func44,Tryz.ntmps44;go_wp2_with (first | (go_at_call 74;refine(rOperands_8 _).mono ?_;rintro e ws ⟨rfl,rfl⟩) | (go_at_call 75;refine(rin_any _ _ _ _).mono ?_;rintro e ws ⟨rfl,rfl⟩) | (go_at_call 76;refine(rmost_10 _ _).mono ?_;rintro e ws ⟨rfl,rfl⟩) | (go_at_call 76;refine(rmost_7 _ _).mono ?_;rintro e ws ⟨rfl,rfl⟩) | (go_at_call 76;refine(rmost_16 _ _).mono ?_;rintro e ws ⟨rfl,rfl⟩));go_ret;exact⟨ret_b (Eq.trans (by first | (simp [rng,mosts,rmo];done) | (simp [rng,mosts,rmo];omega) | (rw [Bool.eq_iff_iff];simp [rng,mosts,rmo] <;> omega)) HV.out.symm),by go_grown⟩
    · have ha2 : (a == 0) = false := by simpa using ha
      have ha3:(a != 0)=true:=(by simpa using ha);go_enter Tryz.func44,Tryz.ntmps44;go_wp2_with (first | (go_at_call 74;refine(rOperands_8 _).mono ?_;rintro e ws ⟨rfl,rfl⟩) | (go_at_call 75;refine(rin_any _ _ _ _).mono ?_;rintro e ws ⟨rfl,rfl⟩) | (go_at_call 76;refine(rmost_10 _ _).mono ?_;rintro e ws ⟨rfl,rfl⟩) | (go_at_call 76;refine(rmost_7 _ _).mono ?_;rintro e ws ⟨rfl,rfl⟩) | (go_at_call 76;refine(rmost_16 _ _).mono ?_;rintro e ws ⟨rfl,rfl⟩));go_ret;exact⟨ret_b (Eq.trans (by first | (simp [rng,mosts,rmo,ha];done) | (simp [rng,mosts,rmo,ha];omega) | (rw [Bool.eq_iff_iff];simp [rng,mosts,rmo,ha] <;> omega)) HV.out.symm),by go_grown⟩
  · have hb2 : (b == 0) = false := by simpa using hb
    have hb3:(b != 0)=true:=(by simpa using hb);go_enter Tryz.func44,Tryz.ntmps44;go_wp2_with (first | (go_at_call 74;refine(rOperands_8 _).mono ?_;rintro e ws ⟨rfl,rfl⟩) | (go_at_call 75;refine(rin_any _ _ _ _).mono ?_;rintro e ws ⟨rfl,rfl⟩) | (go_at_call 76;refine(rmost_10 _ _).mono ?_;rintro e ws ⟨rfl,rfl⟩) | (go_at_call 76;refine(rmost_7 _ _).mono ?_;rintro e ws ⟨rfl,rfl⟩) | (go_at_call 76;refine(rmost_16 _ _).mono ?_;rintro e ws ⟨rfl,rfl⟩));go_ret;exact⟨ret_b (Eq.trans (by first | (simp [rng,mosts,rmo,hb];done) | (simp [rng,mosts,rmo,hb];omega) | (rw [Bool.eq_iff_iff];simp [rng,mosts,rmo,hb] <;> omega)) HV.out.symm),by go_grown⟩
set_option maxHeartbeats 4000000 in
theorem rValid_9 (a b:Int) (p:Bool) (w:World) :
    Calls Tryz.prog 44 #[.agg #[.int .i64 9,.int .i64 a,.int .i64 b],.bool p] w fun e w'=>e=.returned (.bool (vld 9 a b p))∧Below w.heap.size w w':=by
  have HV:=hide (vld_nat 9 (by omega) a b p);have s1:(sp 9).a=0:=rfl;have s2:(sp 9).b=0:=rfl;rw [s1,s2] at HV;clear s1 s2;by_cases hb:b=0
  · subst hb
    by_cases ha:a=0
    · subst ha
      go_enter Tryz.func44,Tryz.ntmps44;go_wp2_with (first | (go_at_call 74;refine(rOperands_9 _).mono ?_;rintro e ws ⟨rfl,rfl⟩) | (go_at_call 75;refine(rin_any _ _ _ _).mono ?_;rintro e ws ⟨rfl,rfl⟩) | (go_at_call 76;refine(rmost_10 _ _).mono ?_;rintro e ws ⟨rfl,rfl⟩) | (go_at_call 76;refine(rmost_7 _ _).mono ?_;rintro e ws ⟨rfl,rfl⟩) | (go_at_call 76;refine(rmost_16 _ _).mono ?_;rintro e ws ⟨rfl,rfl⟩));go_ret;exact⟨ret_b (Eq.trans (by first | (simp [rng,mosts,rmo];done) | (simp [rng,mosts,rmo];omega) | (rw [Bool.eq_iff_iff];simp [rng,mosts,rmo] <;> omega)) HV.out.symm),by go_grown⟩
    · have ha2 : (a == 0) = false := by simpa using ha
      have ha3:(a != 0)=true:=(by simpa using ha);go_enter Tryz.func44,Tryz.ntmps44;go_wp2_with (first | (go_at_call 74;refine(rOperands_9 _).mono ?_;rintro e ws ⟨rfl,rfl⟩) | (go_at_call 75;refine(rin_any _ _ _ _).mono ?_;rintro e ws ⟨rfl,rfl⟩) | (go_at_call 76;refine(rmost_10 _ _).mono ?_;rintro e ws ⟨rfl,rfl⟩) | (go_at_call 76;refine(rmost_7 _ _).mono ?_;rintro e ws ⟨rfl,rfl⟩) | (go_at_call 76;refine(rmost_16 _ _).mono ?_;rintro e ws ⟨rfl,rfl⟩));go_ret;exact⟨ret_b (Eq.trans (by first | (simp [rng,mosts,rmo,ha];done) | (simp [rng,mosts,rmo,ha];omega) | (rw [Bool.eq_iff_iff];simp [rng,mosts,rmo,ha] <;> omega)) HV.out.symm),by go_grown⟩
  · have hb2 : (b == 0) = false := by simpa using hb
    have hb3:(b != 0)=true:=(by simpa using hb);go_enter Tryz.func44,Tryz.ntmps44;go_wp2_with (first | (go_at_call 74;refine(rOperands_9 _).mono ?_;rintro e ws ⟨rfl,rfl⟩) | (go_at_call 75;refine(rin_any _ _ _ _).mono ?_;rintro e ws ⟨rfl,rfl⟩) | (go_at_call 76;refine(rmost_10 _ _).mono ?_;rintro e ws ⟨rfl,rfl⟩) | (go_at_call 76;refine(rmost_7 _ _).mono ?_;rintro e ws ⟨rfl,rfl⟩) | (go_at_call 76;refine(rmost_16 _ _).mono ?_;rintro e ws ⟨rfl,rfl⟩));go_ret;exact⟨ret_b (Eq.trans (by first | (simp [rng,mosts,rmo,hb];done) | (simp [rng,mosts,rmo,hb];omega) | (rw [Bool.eq_iff_iff];simp [rng,mosts,rmo,hb] <;> omega)) HV.out.symm),by go_grown⟩
set_option maxHeartbeats 4000000 in
theorem rValid_10 (a b:Int) (p:Bool) (w:World) :
    Calls Tryz.prog 44 #[.agg #[.int .i64 10,.int .i64 a,.int .i64 b],.bool p] w fun e w'=>e=.returned (.bool (vld 10 a b p))∧Below w.heap.size w w':=by
  have HV:=hide (vld_nat 10 (by omega) a b p);have s1:(sp 10).a=0:=rfl;have s2:(sp 10).b=0:=rfl;rw [s1,s2] at HV;clear s1 s2;by_cases hb:b=0
  · subst hb
    by_cases ha:a=0
    · subst ha
      go_enter Tryz.func44,Tryz.ntmps44;go_wp2_with (first | (go_at_call 74;refine(rOperands_10 _).mono ?_;rintro e ws ⟨rfl,rfl⟩) | (go_at_call 75;refine(rin_any _ _ _ _).mono ?_;rintro e ws ⟨rfl,rfl⟩) | (go_at_call 76;refine(rmost_10 _ _).mono ?_;rintro e ws ⟨rfl,rfl⟩) | (go_at_call 76;refine(rmost_7 _ _).mono ?_;rintro e ws ⟨rfl,rfl⟩) | (go_at_call 76;refine(rmost_16 _ _).mono ?_;rintro e ws ⟨rfl,rfl⟩));go_ret;exact⟨ret_b (Eq.trans (by first | (simp [rng,mosts,rmo];done) | (simp [rng,mosts,rmo];omega) | (rw [Bool.eq_iff_iff];simp [rng,mosts,rmo] <;> omega)) HV.out.symm),by go_grown⟩
    · have ha2 : (a == 0) = false := by simpa using ha
      have ha3:(a != 0)=true:=(by simpa using ha);go_enter Tryz.func44,Tryz.ntmps44;go_wp2_with (first | (go_at_call 74;refine(rOperands_10 _).mono ?_;rintro e ws ⟨rfl,rfl⟩) | (go_at_call 75;refine(rin_any _ _ _ _).mono ?_;rintro e ws ⟨rfl,rfl⟩) | (go_at_call 76;refine(rmost_10 _ _).mono ?_;rintro e ws ⟨rfl,rfl⟩) | (go_at_call 76;refine(rmost_7 _ _).mono ?_;rintro e ws ⟨rfl,rfl⟩) | (go_at_call 76;refine(rmost_16 _ _).mono ?_;rintro e ws ⟨rfl,rfl⟩));go_ret;exact⟨ret_b (Eq.trans (by first | (simp [rng,mosts,rmo,ha];done) | (simp [rng,mosts,rmo,ha];omega) | (rw [Bool.eq_iff_iff];simp [rng,mosts,rmo,ha] <;> omega)) HV.out.symm),by go_grown⟩
  · have hb2 : (b == 0) = false := by simpa using hb
    have hb3:(b != 0)=true:=(by simpa using hb);go_enter Tryz.func44,Tryz.ntmps44;go_wp2_with (first | (go_at_call 74;refine(rOperands_10 _).mono ?_;rintro e ws ⟨rfl,rfl⟩) | (go_at_call 75;refine(rin_any _ _ _ _).mono ?_;rintro e ws ⟨rfl,rfl⟩) | (go_at_call 76;refine(rmost_10 _ _).mono ?_;rintro e ws ⟨rfl,rfl⟩) | (go_at_call 76;refine(rmost_7 _ _).mono ?_;rintro e ws ⟨rfl,rfl⟩) | (go_at_call 76;refine(rmost_16 _ _).mono ?_;rintro e ws ⟨rfl,rfl⟩));go_ret;exact⟨ret_b (Eq.trans (by first | (simp [rng,mosts,rmo,hb];done) | (simp [rng,mosts,rmo,hb];omega) | (rw [Bool.eq_iff_iff];simp [rng,mosts,rmo,hb] <;> omega)) HV.out.symm),by go_grown⟩
set_option maxHeartbeats 4000000 in
theorem rValid_11 (a b:Int) (p:Bool) (w:World) :
    Calls Tryz.prog 44 #[.agg #[.int .i64 11,.int .i64 a,.int .i64 b],.bool p] w fun e w'=>e=.returned (.bool (vld 11 a b p))∧Below w.heap.size w w':=by
  have HV:=hide (vld_nat 11 (by omega) a b p);have s1:(sp 11).a=0:=rfl;have s2:(sp 11).b=0:=rfl;rw [s1,s2] at HV;clear s1 s2;by_cases hb:b=0
  · subst hb
    by_cases ha:a=0
    · subst ha
      go_enter Tryz.func44,Tryz.ntmps44;go_wp2_with (first | (go_at_call 74;refine(rOperands_11 _).mono ?_;rintro e ws ⟨rfl,rfl⟩) | (go_at_call 75;refine(rin_any _ _ _ _).mono ?_;rintro e ws ⟨rfl,rfl⟩) | (go_at_call 76;refine(rmost_10 _ _).mono ?_;rintro e ws ⟨rfl,rfl⟩) | (go_at_call 76;refine(rmost_7 _ _).mono ?_;rintro e ws ⟨rfl,rfl⟩) | (go_at_call 76;refine(rmost_16 _ _).mono ?_;rintro e ws ⟨rfl,rfl⟩));go_ret;exact⟨ret_b (Eq.trans (by first | (simp [rng,mosts,rmo];done) | (simp [rng,mosts,rmo];omega) | (rw [Bool.eq_iff_iff];simp [rng,mosts,rmo] <;> omega)) HV.out.symm),by go_grown⟩
    · have ha2 : (a == 0) = false := by simpa using ha
      have ha3:(a != 0)=true:=(by simpa using ha);go_enter Tryz.func44,Tryz.ntmps44;go_wp2_with (first | (go_at_call 74;refine(rOperands_11 _).mono ?_;rintro e ws ⟨rfl,rfl⟩) | (go_at_call 75;refine(rin_any _ _ _ _).mono ?_;rintro e ws ⟨rfl,rfl⟩) | (go_at_call 76;refine(rmost_10 _ _).mono ?_;rintro e ws ⟨rfl,rfl⟩) | (go_at_call 76;refine(rmost_7 _ _).mono ?_;rintro e ws ⟨rfl,rfl⟩) | (go_at_call 76;refine(rmost_16 _ _).mono ?_;rintro e ws ⟨rfl,rfl⟩));go_ret;exact⟨ret_b (Eq.trans (by first | (simp [rng,mosts,rmo,ha];done) | (simp [rng,mosts,rmo,ha];omega) | (rw [Bool.eq_iff_iff];simp [rng,mosts,rmo,ha] <;> omega)) HV.out.symm),by go_grown⟩
  · have hb2 : (b == 0) = false := by simpa using hb
    have hb3:(b != 0)=true:=(by simpa using hb);go_enter Tryz.func44,Tryz.ntmps44;go_wp2_with (first | (go_at_call 74;refine(rOperands_11 _).mono ?_;rintro e ws ⟨rfl,rfl⟩) | (go_at_call 75;refine(rin_any _ _ _ _).mono ?_;rintro e ws ⟨rfl,rfl⟩) | (go_at_call 76;refine(rmost_10 _ _).mono ?_;rintro e ws ⟨rfl,rfl⟩) | (go_at_call 76;refine(rmost_7 _ _).mono ?_;rintro e ws ⟨rfl,rfl⟩) | (go_at_call 76;refine(rmost_16 _ _).mono ?_;rintro e ws ⟨rfl,rfl⟩));go_ret;exact⟨ret_b (Eq.trans (by first | (simp [rng,mosts,rmo,hb];done) | (simp [rng,mosts,rmo,hb];omega) | (rw [Bool.eq_iff_iff];simp [rng,mosts,rmo,hb] <;> omega)) HV.out.symm),by go_grown⟩
set_option maxHeartbeats 4000000 in
theorem rValid_13 (a b:Int) (p:Bool) (w:World) :
    Calls Tryz.prog 44 #[.agg #[.int .i64 13,.int .i64 a,.int .i64 b],.bool p] w fun e w'=>e=.returned (.bool (vld 13 a b p))∧Below w.heap.size w w':=by
  have HV:=hide (vld_nat 13 (by omega) a b p);have s1:(sp 13).a=0:=rfl;have s2:(sp 13).b=0:=rfl;rw [s1,s2] at HV;clear s1 s2;by_cases hb:b=0
  · subst hb
    by_cases ha:a=0
    · subst ha
      go_enter Tryz.func44,Tryz.ntmps44;go_wp2_with (first | (go_at_call 74;refine(rOperands_13 _).mono ?_;rintro e ws ⟨rfl,rfl⟩) | (go_at_call 75;refine(rin_any _ _ _ _).mono ?_;rintro e ws ⟨rfl,rfl⟩) | (go_at_call 76;refine(rmost_10 _ _).mono ?_;rintro e ws ⟨rfl,rfl⟩) | (go_at_call 76;refine(rmost_7 _ _).mono ?_;rintro e ws ⟨rfl,rfl⟩) | (go_at_call 76;refine(rmost_16 _ _).mono ?_;rintro e ws ⟨rfl,rfl⟩));go_ret;exact⟨ret_b (Eq.trans (by first | (simp [rng,mosts,rmo];done) | (simp [rng,mosts,rmo];omega) | (rw [Bool.eq_iff_iff];simp [rng,mosts,rmo] <;> omega)) HV.out.symm),by go_grown⟩
    · have ha2 : (a == 0) = false := by simpa using ha
      have ha3:(a != 0)=true:=(by simpa using ha);go_enter Tryz.func44,Tryz.ntmps44;go_wp2_with (first | (go_at_call 74;refine(rOperands_13 _).mono ?_;rintro e ws ⟨rfl,rfl⟩) | (go_at_call 75;refine(rin_any _ _ _ _).mono ?_;rintro e ws ⟨rfl,rfl⟩) | (go_at_call 76;refine(rmost_10 _ _).mono ?_;rintro e ws ⟨rfl,rfl⟩) | (go_at_call 76;refine(rmost_7 _ _).mono ?_;rintro e ws ⟨rfl,rfl⟩) | (go_at_call 76;refine(rmost_16 _ _).mono ?_;rintro e ws ⟨rfl,rfl⟩));go_ret;exact⟨ret_b (Eq.trans (by first | (simp [rng,mosts,rmo,ha];done) | (simp [rng,mosts,rmo,ha];omega) | (rw [Bool.eq_iff_iff];simp [rng,mosts,rmo,ha] <;> omega)) HV.out.symm),by go_grown⟩
  · have hb2 : (b == 0) = false := by simpa using hb
    have hb3:(b != 0)=true:=(by simpa using hb);go_enter Tryz.func44,Tryz.ntmps44;go_wp2_with (first | (go_at_call 74;refine(rOperands_13 _).mono ?_;rintro e ws ⟨rfl,rfl⟩) | (go_at_call 75;refine(rin_any _ _ _ _).mono ?_;rintro e ws ⟨rfl,rfl⟩) | (go_at_call 76;refine(rmost_10 _ _).mono ?_;rintro e ws ⟨rfl,rfl⟩) | (go_at_call 76;refine(rmost_7 _ _).mono ?_;rintro e ws ⟨rfl,rfl⟩) | (go_at_call 76;refine(rmost_16 _ _).mono ?_;rintro e ws ⟨rfl,rfl⟩));go_ret;exact⟨ret_b (Eq.trans (by first | (simp [rng,mosts,rmo,hb];done) | (simp [rng,mosts,rmo,hb];omega) | (rw [Bool.eq_iff_iff];simp [rng,mosts,rmo,hb] <;> omega)) HV.out.symm),by go_grown⟩
set_option maxHeartbeats 4000000 in
theorem rValid_14 (a b:Int) (p:Bool) (w:World) :
    Calls Tryz.prog 44 #[.agg #[.int .i64 14,.int .i64 a,.int .i64 b],.bool p] w fun e w'=>e=.returned (.bool (vld 14 a b p))∧Below w.heap.size w w':=by
  have HV:=hide (vld_nat 14 (by omega) a b p);have s1:(sp 14).a=4:=rfl;have s2:(sp 14).b=0:=rfl;rw [s1,s2] at HV;clear s1 s2;by_cases hb:b=0
  · subst hb
    cases p
    case false =>
      go_enter Tryz.func44,Tryz.ntmps44;go_wp2_with (first | (go_at_call 74;refine(rOperands_14 _).mono ?_;rintro e ws ⟨rfl,rfl⟩) | (go_at_call 75;refine(rin_any _ _ _ _).mono ?_;rintro e ws ⟨rfl,rfl⟩) | (go_at_call 76;refine(rmost_10 _ _).mono ?_;rintro e ws ⟨rfl,rfl⟩) | (go_at_call 76;refine(rmost_7 _ _).mono ?_;rintro e ws ⟨rfl,rfl⟩) | (go_at_call 76;refine(rmost_16 _ _).mono ?_;rintro e ws ⟨rfl,rfl⟩));go_quiet ((first | (go_at_call 76;with_reducible exact Calls.quiet_of_same ((rmost_10 false _).mono (fun _ _ h=>⟨h.1,h.2.symm⟩))) | (go_at_call 75;with_reducible exact Calls.quiet_of_same ((rin_any a 0 (rmo 10 false) _).mono (fun _ _ h=>⟨h.1,h.2.symm⟩)))));go_wp2_with fail;go_ret;exact⟨ret_b (Eq.trans (by first | (simp [rng,mosts,rmo];done) | (simp [rng,mosts,rmo];omega) | (rw [Bool.eq_iff_iff];simp [rng,mosts,rmo] <;> omega)) HV.out.symm),drewN_below (by go_grown) _⟩
    case true =>
      go_enter Tryz.func44,Tryz.ntmps44;go_wp2_with (first | (go_at_call 74;refine(rOperands_14 _).mono ?_;rintro e ws ⟨rfl,rfl⟩) | (go_at_call 75;refine(rin_any _ _ _ _).mono ?_;rintro e ws ⟨rfl,rfl⟩) | (go_at_call 76;refine(rmost_10 _ _).mono ?_;rintro e ws ⟨rfl,rfl⟩) | (go_at_call 76;refine(rmost_7 _ _).mono ?_;rintro e ws ⟨rfl,rfl⟩) | (go_at_call 76;refine(rmost_16 _ _).mono ?_;rintro e ws ⟨rfl,rfl⟩));go_quiet ((first | (go_at_call 76;with_reducible exact Calls.quiet_of_same ((rmost_10 true _).mono (fun _ _ h=>⟨h.1,h.2.symm⟩))) | (go_at_call 75;with_reducible exact Calls.quiet_of_same ((rin_any a 0 (rmo 10 true) _).mono (fun _ _ h=>⟨h.1,h.2.symm⟩)))));go_wp2_with fail;go_ret;exact⟨ret_b (Eq.trans (by first | (simp [rng,mosts,rmo];done) | (simp [rng,mosts,rmo];omega) | (rw [Bool.eq_iff_iff];simp [rng,mosts,rmo] <;> omega)) HV.out.symm),drewN_below (by go_grown) _⟩
  · have hb2 : (b == 0) = false := by simpa using hb
    have hb3:(b != 0)=true:=(by simpa using hb);go_enter Tryz.func44,Tryz.ntmps44;go_wp2_with (first | (go_at_call 74;refine(rOperands_14 _).mono ?_;rintro e ws ⟨rfl,rfl⟩) | (go_at_call 75;refine(rin_any _ _ _ _).mono ?_;rintro e ws ⟨rfl,rfl⟩) | (go_at_call 76;refine(rmost_10 _ _).mono ?_;rintro e ws ⟨rfl,rfl⟩) | (go_at_call 76;refine(rmost_7 _ _).mono ?_;rintro e ws ⟨rfl,rfl⟩) | (go_at_call 76;refine(rmost_16 _ _).mono ?_;rintro e ws ⟨rfl,rfl⟩));go_ret;exact⟨ret_b (Eq.trans (by first | (simp [rng,mosts,rmo,hb];done) | (simp [rng,mosts,rmo,hb];omega) | (rw [Bool.eq_iff_iff];simp [rng,mosts,rmo,hb] <;> omega)) HV.out.symm),by go_grown⟩
set_option maxHeartbeats 4000000 in
theorem rValid_15 (a b:Int) (p:Bool) (w:World) :
    Calls Tryz.prog 44 #[.agg #[.int .i64 15,.int .i64 a,.int .i64 b],.bool p] w fun e w'=>e=.returned (.bool (vld 15 a b p))∧Below w.heap.size w w':=by
  have HV:=hide (vld_nat 15 (by omega) a b p);have s1:(sp 15).a=5:=rfl;have s2:(sp 15).b=0:=rfl;rw [s1,s2] at HV;clear s1 s2;by_cases hb:b=0
  · subst hb
    go_enter Tryz.func44,Tryz.ntmps44;go_wp2_with (first | (go_at_call 74;refine(rOperands_15 _).mono ?_;rintro e ws ⟨rfl,rfl⟩) | (go_at_call 75;refine(rin_any _ _ _ _).mono ?_;rintro e ws ⟨rfl,rfl⟩) | (go_at_call 76;refine(rmost_10 _ _).mono ?_;rintro e ws ⟨rfl,rfl⟩) | (go_at_call 76;refine(rmost_7 _ _).mono ?_;rintro e ws ⟨rfl,rfl⟩) | (go_at_call 76;refine(rmost_16 _ _).mono ?_;rintro e ws ⟨rfl,rfl⟩));go_ret;exact⟨ret_b (Eq.trans (by first | (simp [rng,mosts,rmo];done) | (simp [rng,mosts,rmo];omega) | (rw [Bool.eq_iff_iff];simp [rng,mosts,rmo] <;> omega)) HV.out.symm),by go_grown⟩
  · have hb2 : (b == 0) = false := by simpa using hb
    have hb3:(b != 0)=true:=(by simpa using hb);go_enter Tryz.func44,Tryz.ntmps44;go_wp2_with (first | (go_at_call 74;refine(rOperands_15 _).mono ?_;rintro e ws ⟨rfl,rfl⟩) | (go_at_call 75;refine(rin_any _ _ _ _).mono ?_;rintro e ws ⟨rfl,rfl⟩) | (go_at_call 76;refine(rmost_10 _ _).mono ?_;rintro e ws ⟨rfl,rfl⟩) | (go_at_call 76;refine(rmost_7 _ _).mono ?_;rintro e ws ⟨rfl,rfl⟩) | (go_at_call 76;refine(rmost_16 _ _).mono ?_;rintro e ws ⟨rfl,rfl⟩));go_ret;exact⟨ret_b (Eq.trans (by first | (simp [rng,mosts,rmo,hb];done) | (simp [rng,mosts,rmo,hb];omega) | (rw [Bool.eq_iff_iff];simp [rng,mosts,rmo,hb] <;> omega)) HV.out.symm),by go_grown⟩
set_option maxHeartbeats 4000000 in
theorem rValid_17 (a b:Int) (p:Bool) (w:World) :
    Calls Tryz.prog 44 #[.agg #[.int .i64 17,.int .i64 a,.int .i64 b],.bool p] w fun e w'=>e=.returned (.bool (vld 17 a b p))∧Below w.heap.size w w':=by
  have HV:=hide (vld_nat 17 (by omega) a b p);have s1:(sp 17).a=6:=rfl;have s2:(sp 17).b=0:=rfl;rw [s1,s2] at HV;clear s1 s2;by_cases hb:b=0
  · subst hb
    cases p
    case false =>
      go_enter Tryz.func44,Tryz.ntmps44;go_wp2_with (first | (go_at_call 74;refine(rOperands_17 _).mono ?_;rintro e ws ⟨rfl,rfl⟩) | (go_at_call 75;refine(rin_any _ _ _ _).mono ?_;rintro e ws ⟨rfl,rfl⟩) | (go_at_call 76;refine(rmost_10 _ _).mono ?_;rintro e ws ⟨rfl,rfl⟩) | (go_at_call 76;refine(rmost_7 _ _).mono ?_;rintro e ws ⟨rfl,rfl⟩) | (go_at_call 76;refine(rmost_16 _ _).mono ?_;rintro e ws ⟨rfl,rfl⟩));go_quiet ((first | (go_at_call 76;with_reducible exact Calls.quiet_of_same ((rmost_7 false _).mono (fun _ _ h=>⟨h.1,h.2.symm⟩))) | (go_at_call 75;with_reducible exact Calls.quiet_of_same ((rin_any a 0 (rmo 7 false) _).mono (fun _ _ h=>⟨h.1,h.2.symm⟩)))));go_wp2_with fail;go_ret;exact⟨ret_b (Eq.trans (by first | (simp [rng,mosts,rmo];done) | (simp [rng,mosts,rmo];omega) | (rw [Bool.eq_iff_iff];simp [rng,mosts,rmo] <;> omega)) HV.out.symm),drewN_below (by go_grown) _⟩
    case true =>
      go_enter Tryz.func44,Tryz.ntmps44;go_wp2_with (first | (go_at_call 74;refine(rOperands_17 _).mono ?_;rintro e ws ⟨rfl,rfl⟩) | (go_at_call 75;refine(rin_any _ _ _ _).mono ?_;rintro e ws ⟨rfl,rfl⟩) | (go_at_call 76;refine(rmost_10 _ _).mono ?_;rintro e ws ⟨rfl,rfl⟩) | (go_at_call 76;refine(rmost_7 _ _).mono ?_;rintro e ws ⟨rfl,rfl⟩) | (go_at_call 76;refine(rmost_16 _ _).mono ?_;rintro e ws ⟨rfl,rfl⟩));go_quiet ((first | (go_at_call 76;with_reducible exact Calls.quiet_of_same ((rmost_7 true _).mono (fun _ _ h=>⟨h.1,h.2.symm⟩))) | (go_at_call 75;with_reducible exact Calls.quiet_of_same ((rin_any a 0 (rmo 7 true) _).mono (fun _ _ h=>⟨h.1,h.2.symm⟩)))));go_wp2_with fail;go_ret;exact⟨ret_b (Eq.trans (by first | (simp [rng,mosts,rmo];done) | (simp [rng,mosts,rmo];omega) | (rw [Bool.eq_iff_iff];simp [rng,mosts,rmo] <;> omega)) HV.out.symm),drewN_below (by go_grown) _⟩
  · have hb2 : (b == 0) = false := by simpa using hb
    have hb3:(b != 0)=true:=(by simpa using hb);go_enter Tryz.func44,Tryz.ntmps44;go_wp2_with (first | (go_at_call 74;refine(rOperands_17 _).mono ?_;rintro e ws ⟨rfl,rfl⟩) | (go_at_call 75;refine(rin_any _ _ _ _).mono ?_;rintro e ws ⟨rfl,rfl⟩) | (go_at_call 76;refine(rmost_10 _ _).mono ?_;rintro e ws ⟨rfl,rfl⟩) | (go_at_call 76;refine(rmost_7 _ _).mono ?_;rintro e ws ⟨rfl,rfl⟩) | (go_at_call 76;refine(rmost_16 _ _).mono ?_;rintro e ws ⟨rfl,rfl⟩));go_ret;exact⟨ret_b (Eq.trans (by first | (simp [rng,mosts,rmo,hb];done) | (simp [rng,mosts,rmo,hb];omega) | (rw [Bool.eq_iff_iff];simp [rng,mosts,rmo,hb] <;> omega)) HV.out.symm),by go_grown⟩
set_option maxHeartbeats 4000000 in
theorem rValid_18 (a b:Int) (p:Bool) (w:World) :
    Calls Tryz.prog 44 #[.agg #[.int .i64 18,.int .i64 a,.int .i64 b],.bool p] w fun e w'=>e=.returned (.bool (vld 18 a b p))∧Below w.heap.size w w':=by
  have HV:=hide (vld_nat 18 (by omega) a b p);have s1:(sp 18).a=6:=rfl;have s2:(sp 18).b=0:=rfl;rw [s1,s2] at HV;clear s1 s2;by_cases hb:b=0
  · subst hb
    cases p
    case false =>
      go_enter Tryz.func44,Tryz.ntmps44;go_wp2_with (first | (go_at_call 74;refine(rOperands_18 _).mono ?_;rintro e ws ⟨rfl,rfl⟩) | (go_at_call 75;refine(rin_any _ _ _ _).mono ?_;rintro e ws ⟨rfl,rfl⟩) | (go_at_call 76;refine(rmost_10 _ _).mono ?_;rintro e ws ⟨rfl,rfl⟩) | (go_at_call 76;refine(rmost_7 _ _).mono ?_;rintro e ws ⟨rfl,rfl⟩) | (go_at_call 76;refine(rmost_16 _ _).mono ?_;rintro e ws ⟨rfl,rfl⟩));go_quiet ((first | (go_at_call 76;with_reducible exact Calls.quiet_of_same ((rmost_7 false _).mono (fun _ _ h=>⟨h.1,h.2.symm⟩))) | (go_at_call 75;with_reducible exact Calls.quiet_of_same ((rin_any a 0 (rmo 7 false) _).mono (fun _ _ h=>⟨h.1,h.2.symm⟩)))));go_wp2_with fail;go_ret;exact⟨ret_b (Eq.trans (by first | (simp [rng,mosts,rmo];done) | (simp [rng,mosts,rmo];omega) | (rw [Bool.eq_iff_iff];simp [rng,mosts,rmo] <;> omega)) HV.out.symm),drewN_below (by go_grown) _⟩
    case true =>
      go_enter Tryz.func44,Tryz.ntmps44;go_wp2_with (first | (go_at_call 74;refine(rOperands_18 _).mono ?_;rintro e ws ⟨rfl,rfl⟩) | (go_at_call 75;refine(rin_any _ _ _ _).mono ?_;rintro e ws ⟨rfl,rfl⟩) | (go_at_call 76;refine(rmost_10 _ _).mono ?_;rintro e ws ⟨rfl,rfl⟩) | (go_at_call 76;refine(rmost_7 _ _).mono ?_;rintro e ws ⟨rfl,rfl⟩) | (go_at_call 76;refine(rmost_16 _ _).mono ?_;rintro e ws ⟨rfl,rfl⟩));go_quiet ((first | (go_at_call 76;with_reducible exact Calls.quiet_of_same ((rmost_7 true _).mono (fun _ _ h=>⟨h.1,h.2.symm⟩))) | (go_at_call 75;with_reducible exact Calls.quiet_of_same ((rin_any a 0 (rmo 7 true) _).mono (fun _ _ h=>⟨h.1,h.2.symm⟩)))));go_wp2_with fail;go_ret;exact⟨ret_b (Eq.trans (by first | (simp [rng,mosts,rmo];done) | (simp [rng,mosts,rmo];omega) | (rw [Bool.eq_iff_iff];simp [rng,mosts,rmo] <;> omega)) HV.out.symm),drewN_below (by go_grown) _⟩
  · have hb2 : (b == 0) = false := by simpa using hb
    have hb3:(b != 0)=true:=(by simpa using hb);go_enter Tryz.func44,Tryz.ntmps44;go_wp2_with (first | (go_at_call 74;refine(rOperands_18 _).mono ?_;rintro e ws ⟨rfl,rfl⟩) | (go_at_call 75;refine(rin_any _ _ _ _).mono ?_;rintro e ws ⟨rfl,rfl⟩) | (go_at_call 76;refine(rmost_10 _ _).mono ?_;rintro e ws ⟨rfl,rfl⟩) | (go_at_call 76;refine(rmost_7 _ _).mono ?_;rintro e ws ⟨rfl,rfl⟩) | (go_at_call 76;refine(rmost_16 _ _).mono ?_;rintro e ws ⟨rfl,rfl⟩));go_ret;exact⟨ret_b (Eq.trans (by first | (simp [rng,mosts,rmo,hb];done) | (simp [rng,mosts,rmo,hb];omega) | (rw [Bool.eq_iff_iff];simp [rng,mosts,rmo,hb] <;> omega)) HV.out.symm),by go_grown⟩
end Ec
end Go.Proofs.YtmjnakhpekbenaaGreat
namespace Go.Proofs.YtmjnakhpekbenaaGreat
open Go.RowKit Go.Sort
namespace Ec
set_option maxHeartbeats 4000000 in
theorem rValid_19 (a b:Int) (p:Bool) (w:World) :
    Calls Tryz.prog 44 #[.agg #[.int .i64 19,.int .i64 a,.int .i64 b],.bool p] w fun e w'=>e=.returned (.bool (vld 19 a b p))∧Below w.heap.size w w':=by
  have HV:=hide (vld_nat 19 (by omega) a b p);have s1:(sp 19).a=0:=rfl;have s2:(sp 19).b=0:=rfl;rw [s1,s2] at HV;clear s1 s2;by_cases hb:b=0
  · subst hb
    by_cases ha:a=0
    · subst ha
      go_enter Tryz.func44,Tryz.ntmps44;go_wp2_with (first | (go_at_call 74;refine(rOperands_19 _).mono ?_;rintro e ws ⟨rfl,rfl⟩) | (go_at_call 75;refine(rin_any _ _ _ _).mono ?_;rintro e ws ⟨rfl,rfl⟩) | (go_at_call 76;refine(rmost_10 _ _).mono ?_;rintro e ws ⟨rfl,rfl⟩) | (go_at_call 76;refine(rmost_7 _ _).mono ?_;rintro e ws ⟨rfl,rfl⟩) | (go_at_call 76;refine(rmost_16 _ _).mono ?_;rintro e ws ⟨rfl,rfl⟩));go_ret;exact⟨ret_b (Eq.trans (by first | (simp [rng,mosts,rmo];done) | (simp [rng,mosts,rmo];omega) | (rw [Bool.eq_iff_iff];simp [rng,mosts,rmo] <;> omega)) HV.out.symm),by go_grown⟩
    · have ha2 : (a == 0) = false := by simpa using ha
      have ha3:(a != 0)=true:=(by simpa using ha);go_enter Tryz.func44,Tryz.ntmps44;go_wp2_with (first | (go_at_call 74;refine(rOperands_19 _).mono ?_;rintro e ws ⟨rfl,rfl⟩) | (go_at_call 75;refine(rin_any _ _ _ _).mono ?_;rintro e ws ⟨rfl,rfl⟩) | (go_at_call 76;refine(rmost_10 _ _).mono ?_;rintro e ws ⟨rfl,rfl⟩) | (go_at_call 76;refine(rmost_7 _ _).mono ?_;rintro e ws ⟨rfl,rfl⟩) | (go_at_call 76;refine(rmost_16 _ _).mono ?_;rintro e ws ⟨rfl,rfl⟩));go_ret;exact⟨ret_b (Eq.trans (by first | (simp [rng,mosts,rmo,ha];done) | (simp [rng,mosts,rmo,ha];omega) | (rw [Bool.eq_iff_iff];simp [rng,mosts,rmo,ha] <;> omega)) HV.out.symm),by go_grown⟩
  · have hb2 : (b == 0) = false := by simpa using hb
    have hb3:(b != 0)=true:=(by simpa using hb);go_enter Tryz.func44,Tryz.ntmps44;go_wp2_with (first | (go_at_call 74;refine(rOperands_19 _).mono ?_;rintro e ws ⟨rfl,rfl⟩) | (go_at_call 75;refine(rin_any _ _ _ _).mono ?_;rintro e ws ⟨rfl,rfl⟩) | (go_at_call 76;refine(rmost_10 _ _).mono ?_;rintro e ws ⟨rfl,rfl⟩) | (go_at_call 76;refine(rmost_7 _ _).mono ?_;rintro e ws ⟨rfl,rfl⟩) | (go_at_call 76;refine(rmost_16 _ _).mono ?_;rintro e ws ⟨rfl,rfl⟩));go_ret;exact⟨ret_b (Eq.trans (by first | (simp [rng,mosts,rmo,hb];done) | (simp [rng,mosts,rmo,hb];omega) | (rw [Bool.eq_iff_iff];simp [rng,mosts,rmo,hb] <;> omega)) HV.out.symm),by go_grown⟩
set_option maxHeartbeats 4000000 in
theorem rValid_20 (a b:Int) (p:Bool) (w:World) :
    Calls Tryz.prog 44 #[.agg #[.int .i64 20,.int .i64 a,.int .i64 b],.bool p] w fun e w'=>e=.returned (.bool (vld 20 a b p))∧Below w.heap.size w w':=by
  have HV:=hide (vld_nat 20 (by omega) a b p);have s1:(sp 20).a=0:=rfl;have s2:(sp 20).b=0:=rfl;rw [s1,s2] at HV;clear s1 s2;by_cases hb:b=0
  · subst hb
    by_cases ha:a=0
    · subst ha
      go_enter Tryz.func44,Tryz.ntmps44;go_wp2_with (first | (go_at_call 74;refine(rOperands_20 _).mono ?_;rintro e ws ⟨rfl,rfl⟩) | (go_at_call 75;refine(rin_any _ _ _ _).mono ?_;rintro e ws ⟨rfl,rfl⟩) | (go_at_call 76;refine(rmost_10 _ _).mono ?_;rintro e ws ⟨rfl,rfl⟩) | (go_at_call 76;refine(rmost_7 _ _).mono ?_;rintro e ws ⟨rfl,rfl⟩) | (go_at_call 76;refine(rmost_16 _ _).mono ?_;rintro e ws ⟨rfl,rfl⟩));go_ret;exact⟨ret_b (Eq.trans (by first | (simp [rng,mosts,rmo];done) | (simp [rng,mosts,rmo];omega) | (rw [Bool.eq_iff_iff];simp [rng,mosts,rmo] <;> omega)) HV.out.symm),by go_grown⟩
    · have ha2 : (a == 0) = false := by simpa using ha
      have ha3:(a != 0)=true:=(by simpa using ha);go_enter Tryz.func44,Tryz.ntmps44;go_wp2_with (first | (go_at_call 74;refine(rOperands_20 _).mono ?_;rintro e ws ⟨rfl,rfl⟩) | (go_at_call 75;refine(rin_any _ _ _ _).mono ?_;rintro e ws ⟨rfl,rfl⟩) | (go_at_call 76;refine(rmost_10 _ _).mono ?_;rintro e ws ⟨rfl,rfl⟩) | (go_at_call 76;refine(rmost_7 _ _).mono ?_;rintro e ws ⟨rfl,rfl⟩) | (go_at_call 76;refine(rmost_16 _ _).mono ?_;rintro e ws ⟨rfl,rfl⟩));go_ret;exact⟨ret_b (Eq.trans (by first | (simp [rng,mosts,rmo,ha];done) | (simp [rng,mosts,rmo,ha];omega) | (rw [Bool.eq_iff_iff];simp [rng,mosts,rmo,ha] <;> omega)) HV.out.symm),by go_grown⟩
  · have hb2 : (b == 0) = false := by simpa using hb
    have hb3:(b != 0)=true:=(by simpa using hb);go_enter Tryz.func44,Tryz.ntmps44;go_wp2_with (first | (go_at_call 74;refine(rOperands_20 _).mono ?_;rintro e ws ⟨rfl,rfl⟩) | (go_at_call 75;refine(rin_any _ _ _ _).mono ?_;rintro e ws ⟨rfl,rfl⟩) | (go_at_call 76;refine(rmost_10 _ _).mono ?_;rintro e ws ⟨rfl,rfl⟩) | (go_at_call 76;refine(rmost_7 _ _).mono ?_;rintro e ws ⟨rfl,rfl⟩) | (go_at_call 76;refine(rmost_16 _ _).mono ?_;rintro e ws ⟨rfl,rfl⟩));go_ret;exact⟨ret_b (Eq.trans (by first | (simp [rng,mosts,rmo,hb];done) | (simp [rng,mosts,rmo,hb];omega) | (rw [Bool.eq_iff_iff];simp [rng,mosts,rmo,hb] <;> omega)) HV.out.symm),by go_grown⟩
set_option maxHeartbeats 4000000 in
theorem rValid_21 (a b:Int) (p:Bool) (w:World) :
    Calls Tryz.prog 44 #[.agg #[.int .i64 21,.int .i64 a,.int .i64 b],.bool p] w fun e w'=>e=.returned (.bool (vld 21 a b p))∧Below w.heap.size w w':=by
  have HV:=hide (vld_nat 21 (by omega) a b p);have s1:(sp 21).a=0:=rfl;have s2:(sp 21).b=0:=rfl;rw [s1,s2] at HV;clear s1 s2;by_cases hb:b=0
  · subst hb
    by_cases ha:a=0
    · subst ha
      go_enter Tryz.func44,Tryz.ntmps44;go_wp2_with (first | (go_at_call 74;refine(rOperands_21 _).mono ?_;rintro e ws ⟨rfl,rfl⟩) | (go_at_call 75;refine(rin_any _ _ _ _).mono ?_;rintro e ws ⟨rfl,rfl⟩) | (go_at_call 76;refine(rmost_10 _ _).mono ?_;rintro e ws ⟨rfl,rfl⟩) | (go_at_call 76;refine(rmost_7 _ _).mono ?_;rintro e ws ⟨rfl,rfl⟩) | (go_at_call 76;refine(rmost_16 _ _).mono ?_;rintro e ws ⟨rfl,rfl⟩));go_ret;exact⟨ret_b (Eq.trans (by first | (simp [rng,mosts,rmo];done) | (simp [rng,mosts,rmo];omega) | (rw [Bool.eq_iff_iff];simp [rng,mosts,rmo] <;> omega)) HV.out.symm),by go_grown⟩
    · have ha2 : (a == 0) = false := by simpa using ha
      have ha3:(a != 0)=true:=(by simpa using ha);go_enter Tryz.func44,Tryz.ntmps44;go_wp2_with (first | (go_at_call 74;refine(rOperands_21 _).mono ?_;rintro e ws ⟨rfl,rfl⟩) | (go_at_call 75;refine(rin_any _ _ _ _).mono ?_;rintro e ws ⟨rfl,rfl⟩) | (go_at_call 76;refine(rmost_10 _ _).mono ?_;rintro e ws ⟨rfl,rfl⟩) | (go_at_call 76;refine(rmost_7 _ _).mono ?_;rintro e ws ⟨rfl,rfl⟩) | (go_at_call 76;refine(rmost_16 _ _).mono ?_;rintro e ws ⟨rfl,rfl⟩));go_ret;exact⟨ret_b (Eq.trans (by first | (simp [rng,mosts,rmo,ha];done) | (simp [rng,mosts,rmo,ha];omega) | (rw [Bool.eq_iff_iff];simp [rng,mosts,rmo,ha] <;> omega)) HV.out.symm),by go_grown⟩
  · have hb2 : (b == 0) = false := by simpa using hb
    have hb3:(b != 0)=true:=(by simpa using hb);go_enter Tryz.func44,Tryz.ntmps44;go_wp2_with (first | (go_at_call 74;refine(rOperands_21 _).mono ?_;rintro e ws ⟨rfl,rfl⟩) | (go_at_call 75;refine(rin_any _ _ _ _).mono ?_;rintro e ws ⟨rfl,rfl⟩) | (go_at_call 76;refine(rmost_10 _ _).mono ?_;rintro e ws ⟨rfl,rfl⟩) | (go_at_call 76;refine(rmost_7 _ _).mono ?_;rintro e ws ⟨rfl,rfl⟩) | (go_at_call 76;refine(rmost_16 _ _).mono ?_;rintro e ws ⟨rfl,rfl⟩));go_ret;exact⟨ret_b (Eq.trans (by first | (simp [rng,mosts,rmo,hb];done) | (simp [rng,mosts,rmo,hb];omega) | (rw [Bool.eq_iff_iff];simp [rng,mosts,rmo,hb] <;> omega)) HV.out.symm),by go_grown⟩
set_option maxHeartbeats 4000000 in
theorem rValid_22 (a b:Int) (p:Bool) (w:World) :
    Calls Tryz.prog 44 #[.agg #[.int .i64 22,.int .i64 a,.int .i64 b],.bool p] w fun e w'=>e=.returned (.bool (vld 22 a b p))∧Below w.heap.size w w':=by
  have HV:=hide (vld_nat 22 (by omega) a b p);have s1:(sp 22).a=7:=rfl;have s2:(sp 22).b=0:=rfl;rw [s1,s2] at HV;clear s1 s2;by_cases hb:b=0
  · subst hb
    cases p
    case false =>
      go_enter Tryz.func44,Tryz.ntmps44;go_wp2_with (first | (go_at_call 74;refine(rOperands_22 _).mono ?_;rintro e ws ⟨rfl,rfl⟩) | (go_at_call 75;refine(rin_any _ _ _ _).mono ?_;rintro e ws ⟨rfl,rfl⟩) | (go_at_call 76;refine(rmost_10 _ _).mono ?_;rintro e ws ⟨rfl,rfl⟩) | (go_at_call 76;refine(rmost_7 _ _).mono ?_;rintro e ws ⟨rfl,rfl⟩) | (go_at_call 76;refine(rmost_16 _ _).mono ?_;rintro e ws ⟨rfl,rfl⟩));go_quiet ((first | (go_at_call 76;with_reducible exact Calls.quiet_of_same ((rmost_10 false _).mono (fun _ _ h=>⟨h.1,h.2.symm⟩))) | (go_at_call 75;with_reducible exact Calls.quiet_of_same ((rin_any a 0 (rmo 10 false) _).mono (fun _ _ h=>⟨h.1,h.2.symm⟩)))));go_wp2_with fail;go_ret;exact⟨ret_b (Eq.trans (by first | (simp [rng,mosts,rmo];done) | (simp [rng,mosts,rmo];omega) | (rw [Bool.eq_iff_iff];simp [rng,mosts,rmo] <;> omega)) HV.out.symm),drewN_below (by go_grown) _⟩
    case true =>
      go_enter Tryz.func44,Tryz.ntmps44;go_wp2_with (first | (go_at_call 74;refine(rOperands_22 _).mono ?_;rintro e ws ⟨rfl,rfl⟩) | (go_at_call 75;refine(rin_any _ _ _ _).mono ?_;rintro e ws ⟨rfl,rfl⟩) | (go_at_call 76;refine(rmost_10 _ _).mono ?_;rintro e ws ⟨rfl,rfl⟩) | (go_at_call 76;refine(rmost_7 _ _).mono ?_;rintro e ws ⟨rfl,rfl⟩) | (go_at_call 76;refine(rmost_16 _ _).mono ?_;rintro e ws ⟨rfl,rfl⟩));go_quiet ((first | (go_at_call 76;with_reducible exact Calls.quiet_of_same ((rmost_10 true _).mono (fun _ _ h=>⟨h.1,h.2.symm⟩))) | (go_at_call 75;with_reducible exact Calls.quiet_of_same ((rin_any a 0 (rmo 10 true) _).mono (fun _ _ h=>⟨h.1,h.2.symm⟩)))));go_wp2_with fail;go_ret;exact⟨ret_b (Eq.trans (by first | (simp [rng,mosts,rmo];done) | (simp [rng,mosts,rmo];omega) | (rw [Bool.eq_iff_iff];simp [rng,mosts,rmo] <;> omega)) HV.out.symm),drewN_below (by go_grown) _⟩
  · have hb2 : (b == 0) = false := by simpa using hb
    have hb3:(b != 0)=true:=(by simpa using hb);go_enter Tryz.func44,Tryz.ntmps44;go_wp2_with (first | (go_at_call 74;refine(rOperands_22 _).mono ?_;rintro e ws ⟨rfl,rfl⟩) | (go_at_call 75;refine(rin_any _ _ _ _).mono ?_;rintro e ws ⟨rfl,rfl⟩) | (go_at_call 76;refine(rmost_10 _ _).mono ?_;rintro e ws ⟨rfl,rfl⟩) | (go_at_call 76;refine(rmost_7 _ _).mono ?_;rintro e ws ⟨rfl,rfl⟩) | (go_at_call 76;refine(rmost_16 _ _).mono ?_;rintro e ws ⟨rfl,rfl⟩));go_ret;exact⟨ret_b (Eq.trans (by first | (simp [rng,mosts,rmo,hb];done) | (simp [rng,mosts,rmo,hb];omega) | (rw [Bool.eq_iff_iff];simp [rng,mosts,rmo,hb] <;> omega)) HV.out.symm),by go_grown⟩
set_option maxHeartbeats 4000000 in
theorem rValid_23 (a b:Int) (p:Bool) (w:World) :
    Calls Tryz.prog 44 #[.agg #[.int .i64 23,.int .i64 a,.int .i64 b],.bool p] w fun e w'=>e=.returned (.bool (vld 23 a b p))∧Below w.heap.size w w':=by
  have HV:=hide (vld_nat 23 (by omega) a b p);have s1:(sp 23).a=7:=rfl;have s2:(sp 23).b=0:=rfl;rw [s1,s2] at HV;clear s1 s2;by_cases hb:b=0
  · subst hb
    cases p
    case false =>
      go_enter Tryz.func44,Tryz.ntmps44;go_wp2_with (first | (go_at_call 74;refine(rOperands_23 _).mono ?_;rintro e ws ⟨rfl,rfl⟩) | (go_at_call 75;refine(rin_any _ _ _ _).mono ?_;rintro e ws ⟨rfl,rfl⟩) | (go_at_call 76;refine(rmost_10 _ _).mono ?_;rintro e ws ⟨rfl,rfl⟩) | (go_at_call 76;refine(rmost_7 _ _).mono ?_;rintro e ws ⟨rfl,rfl⟩) | (go_at_call 76;refine(rmost_16 _ _).mono ?_;rintro e ws ⟨rfl,rfl⟩));go_quiet ((first | (go_at_call 76;with_reducible exact Calls.quiet_of_same ((rmost_10 false _).mono (fun _ _ h=>⟨h.1,h.2.symm⟩))) | (go_at_call 75;with_reducible exact Calls.quiet_of_same ((rin_any a 0 (rmo 10 false) _).mono (fun _ _ h=>⟨h.1,h.2.symm⟩)))));go_wp2_with fail;go_ret;exact⟨ret_b (Eq.trans (by first | (simp [rng,mosts,rmo];done) | (simp [rng,mosts,rmo];omega) | (rw [Bool.eq_iff_iff];simp [rng,mosts,rmo] <;> omega)) HV.out.symm),drewN_below (by go_grown) _⟩
    case true =>
      go_enter Tryz.func44,Tryz.ntmps44;go_wp2_with (first | (go_at_call 74;refine(rOperands_23 _).mono ?_;rintro e ws ⟨rfl,rfl⟩) | (go_at_call 75;refine(rin_any _ _ _ _).mono ?_;rintro e ws ⟨rfl,rfl⟩) | (go_at_call 76;refine(rmost_10 _ _).mono ?_;rintro e ws ⟨rfl,rfl⟩) | (go_at_call 76;refine(rmost_7 _ _).mono ?_;rintro e ws ⟨rfl,rfl⟩) | (go_at_call 76;refine(rmost_16 _ _).mono ?_;rintro e ws ⟨rfl,rfl⟩));go_quiet ((first | (go_at_call 76;with_reducible exact Calls.quiet_of_same ((rmost_10 true _).mono (fun _ _ h=>⟨h.1,h.2.symm⟩))) | (go_at_call 75;with_reducible exact Calls.quiet_of_same ((rin_any a 0 (rmo 10 true) _).mono (fun _ _ h=>⟨h.1,h.2.symm⟩)))));go_wp2_with fail;go_ret;exact⟨ret_b (Eq.trans (by first | (simp [rng,mosts,rmo];done) | (simp [rng,mosts,rmo];omega) | (rw [Bool.eq_iff_iff];simp [rng,mosts,rmo] <;> omega)) HV.out.symm),drewN_below (by go_grown) _⟩
  · have hb2 : (b == 0) = false := by simpa using hb
    have hb3:(b != 0)=true:=(by simpa using hb);go_enter Tryz.func44,Tryz.ntmps44;go_wp2_with (first | (go_at_call 74;refine(rOperands_23 _).mono ?_;rintro e ws ⟨rfl,rfl⟩) | (go_at_call 75;refine(rin_any _ _ _ _).mono ?_;rintro e ws ⟨rfl,rfl⟩) | (go_at_call 76;refine(rmost_10 _ _).mono ?_;rintro e ws ⟨rfl,rfl⟩) | (go_at_call 76;refine(rmost_7 _ _).mono ?_;rintro e ws ⟨rfl,rfl⟩) | (go_at_call 76;refine(rmost_16 _ _).mono ?_;rintro e ws ⟨rfl,rfl⟩));go_ret;exact⟨ret_b (Eq.trans (by first | (simp [rng,mosts,rmo,hb];done) | (simp [rng,mosts,rmo,hb];omega) | (rw [Bool.eq_iff_iff];simp [rng,mosts,rmo,hb] <;> omega)) HV.out.symm),by go_grown⟩
set_option maxHeartbeats 4000000 in
theorem rValid_24 (a b:Int) (p:Bool) (w:World) :
    Calls Tryz.prog 44 #[.agg #[.int .i64 24,.int .i64 a,.int .i64 b],.bool p] w fun e w'=>e=.returned (.bool (vld 24 a b p))∧Below w.heap.size w w':=by
  have HV:=hide (vld_nat 24 (by omega) a b p);have s1:(sp 24).a=4:=rfl;have s2:(sp 24).b=0:=rfl;rw [s1,s2] at HV;clear s1 s2;by_cases hb:b=0
  · subst hb
    cases p
    case false =>
      go_enter Tryz.func44,Tryz.ntmps44;go_wp2_with (first | (go_at_call 74;refine(rOperands_24 _).mono ?_;rintro e ws ⟨rfl,rfl⟩) | (go_at_call 75;refine(rin_any _ _ _ _).mono ?_;rintro e ws ⟨rfl,rfl⟩) | (go_at_call 76;refine(rmost_10 _ _).mono ?_;rintro e ws ⟨rfl,rfl⟩) | (go_at_call 76;refine(rmost_7 _ _).mono ?_;rintro e ws ⟨rfl,rfl⟩) | (go_at_call 76;refine(rmost_16 _ _).mono ?_;rintro e ws ⟨rfl,rfl⟩));go_quiet ((first | (go_at_call 76;with_reducible exact Calls.quiet_of_same ((rmost_10 false _).mono (fun _ _ h=>⟨h.1,h.2.symm⟩))) | (go_at_call 75;with_reducible exact Calls.quiet_of_same ((rin_any a 0 (rmo 10 false) _).mono (fun _ _ h=>⟨h.1,h.2.symm⟩)))));go_wp2_with fail;go_ret;exact⟨ret_b (Eq.trans (by first | (simp [rng,mosts,rmo];done) | (simp [rng,mosts,rmo];omega) | (rw [Bool.eq_iff_iff];simp [rng,mosts,rmo] <;> omega)) HV.out.symm),drewN_below (by go_grown) _⟩
    case true =>
      go_enter Tryz.func44,Tryz.ntmps44;go_wp2_with (first | (go_at_call 74;refine(rOperands_24 _).mono ?_;rintro e ws ⟨rfl,rfl⟩) | (go_at_call 75;refine(rin_any _ _ _ _).mono ?_;rintro e ws ⟨rfl,rfl⟩) | (go_at_call 76;refine(rmost_10 _ _).mono ?_;rintro e ws ⟨rfl,rfl⟩) | (go_at_call 76;refine(rmost_7 _ _).mono ?_;rintro e ws ⟨rfl,rfl⟩) | (go_at_call 76;refine(rmost_16 _ _).mono ?_;rintro e ws ⟨rfl,rfl⟩));go_quiet ((first | (go_at_call 76;with_reducible exact Calls.quiet_of_same ((rmost_10 true _).mono (fun _ _ h=>⟨h.1,h.2.symm⟩))) | (go_at_call 75;with_reducible exact Calls.quiet_of_same ((rin_any a 0 (rmo 10 true) _).mono (fun _ _ h=>⟨h.1,h.2.symm⟩)))));go_wp2_with fail;go_ret;exact⟨ret_b (Eq.trans (by first | (simp [rng,mosts,rmo];done) | (simp [rng,mosts,rmo];omega) | (rw [Bool.eq_iff_iff];simp [rng,mosts,rmo] <;> omega)) HV.out.symm),drewN_below (by go_grown) _⟩
  · have hb2 : (b == 0) = false := by simpa using hb
    have hb3:(b != 0)=true:=(by simpa using hb);go_enter Tryz.func44,Tryz.ntmps44;go_wp2_with (first | (go_at_call 74;refine(rOperands_24 _).mono ?_;rintro e ws ⟨rfl,rfl⟩) | (go_at_call 75;refine(rin_any _ _ _ _).mono ?_;rintro e ws ⟨rfl,rfl⟩) | (go_at_call 76;refine(rmost_10 _ _).mono ?_;rintro e ws ⟨rfl,rfl⟩) | (go_at_call 76;refine(rmost_7 _ _).mono ?_;rintro e ws ⟨rfl,rfl⟩) | (go_at_call 76;refine(rmost_16 _ _).mono ?_;rintro e ws ⟨rfl,rfl⟩));go_ret;exact⟨ret_b (Eq.trans (by first | (simp [rng,mosts,rmo,hb];done) | (simp [rng,mosts,rmo,hb];omega) | (rw [Bool.eq_iff_iff];simp [rng,mosts,rmo,hb] <;> omega)) HV.out.symm),by go_grown⟩
set_option maxHeartbeats 4000000 in
theorem rValid_25 (a b:Int) (p:Bool) (w:World) :
    Calls Tryz.prog 44 #[.agg #[.int .i64 25,.int .i64 a,.int .i64 b],.bool p] w fun e w'=>e=.returned (.bool (vld 25 a b p))∧Below w.heap.size w w':=by
  have HV:=hide (vld_nat 25 (by omega) a b p);have s1:(sp 25).a=8:=rfl;have s2:(sp 25).b=0:=rfl;rw [s1,s2] at HV;clear s1 s2;by_cases hb:b=0
  · subst hb
    cases p
    case false =>
      go_enter Tryz.func44,Tryz.ntmps44;go_wp2_with (first | (go_at_call 74;refine(rOperands_25 _).mono ?_;rintro e ws ⟨rfl,rfl⟩) | (go_at_call 75;refine(rin_any _ _ _ _).mono ?_;rintro e ws ⟨rfl,rfl⟩) | (go_at_call 76;refine(rmost_10 _ _).mono ?_;rintro e ws ⟨rfl,rfl⟩) | (go_at_call 76;refine(rmost_7 _ _).mono ?_;rintro e ws ⟨rfl,rfl⟩) | (go_at_call 76;refine(rmost_16 _ _).mono ?_;rintro e ws ⟨rfl,rfl⟩));go_quiet ((first | (go_at_call 76;with_reducible exact Calls.quiet_of_same ((rmost_16 false _).mono (fun _ _ h=>⟨h.1,h.2.symm⟩))) | (go_at_call 75;with_reducible exact Calls.quiet_of_same ((rin_any a 0 (rmo 16 false) _).mono (fun _ _ h=>⟨h.1,h.2.symm⟩)))));go_wp2_with fail;go_ret;exact⟨ret_b (Eq.trans (by first | (simp [rng,mosts,rmo];done) | (simp [rng,mosts,rmo];omega) | (rw [Bool.eq_iff_iff];simp [rng,mosts,rmo] <;> omega)) HV.out.symm),drewN_below (by go_grown) _⟩
    case true =>
      go_enter Tryz.func44,Tryz.ntmps44;go_wp2_with (first | (go_at_call 74;refine(rOperands_25 _).mono ?_;rintro e ws ⟨rfl,rfl⟩) | (go_at_call 75;refine(rin_any _ _ _ _).mono ?_;rintro e ws ⟨rfl,rfl⟩) | (go_at_call 76;refine(rmost_10 _ _).mono ?_;rintro e ws ⟨rfl,rfl⟩) | (go_at_call 76;refine(rmost_7 _ _).mono ?_;rintro e ws ⟨rfl,rfl⟩) | (go_at_call 76;refine(rmost_16 _ _).mono ?_;rintro e ws ⟨rfl,rfl⟩));go_quiet ((first | (go_at_call 76;with_reducible exact Calls.quiet_of_same ((rmost_16 true _).mono (fun _ _ h=>⟨h.1,h.2.symm⟩))) | (go_at_call 75;with_reducible exact Calls.quiet_of_same ((rin_any a 0 (rmo 16 true) _).mono (fun _ _ h=>⟨h.1,h.2.symm⟩)))));go_wp2_with fail;go_ret;exact⟨ret_b (Eq.trans (by first | (simp [rng,mosts,rmo];done) | (simp [rng,mosts,rmo];omega) | (rw [Bool.eq_iff_iff];simp [rng,mosts,rmo] <;> omega)) HV.out.symm),drewN_below (by go_grown) _⟩
  · have hb2 : (b == 0) = false := by simpa using hb
    have hb3:(b != 0)=true:=(by simpa using hb);go_enter Tryz.func44,Tryz.ntmps44;go_wp2_with (first | (go_at_call 74;refine(rOperands_25 _).mono ?_;rintro e ws ⟨rfl,rfl⟩) | (go_at_call 75;refine(rin_any _ _ _ _).mono ?_;rintro e ws ⟨rfl,rfl⟩) | (go_at_call 76;refine(rmost_10 _ _).mono ?_;rintro e ws ⟨rfl,rfl⟩) | (go_at_call 76;refine(rmost_7 _ _).mono ?_;rintro e ws ⟨rfl,rfl⟩) | (go_at_call 76;refine(rmost_16 _ _).mono ?_;rintro e ws ⟨rfl,rfl⟩));go_ret;exact⟨ret_b (Eq.trans (by first | (simp [rng,mosts,rmo,hb];done) | (simp [rng,mosts,rmo,hb];omega) | (rw [Bool.eq_iff_iff];simp [rng,mosts,rmo,hb] <;> omega)) HV.out.symm),by go_grown⟩
set_option maxHeartbeats 4000000 in
theorem rValid_26 (a b:Int) (p:Bool) (w:World) :
    Calls Tryz.prog 44 #[.agg #[.int .i64 26,.int .i64 a,.int .i64 b],.bool p] w fun e w'=>e=.returned (.bool (vld 26 a b p))∧Below w.heap.size w w':=by
  have HV:=hide (vld_nat 26 (by omega) a b p);have s1:(sp 26).a=9:=rfl;have s2:(sp 26).b=0:=rfl;rw [s1,s2] at HV;clear s1 s2;by_cases hb:b=0
  · subst hb
    cases p
    case false =>
      go_enter Tryz.func44,Tryz.ntmps44;go_wp2_with (first | (go_at_call 74;refine(rOperands_26 _).mono ?_;rintro e ws ⟨rfl,rfl⟩) | (go_at_call 75;refine(rin_any _ _ _ _).mono ?_;rintro e ws ⟨rfl,rfl⟩) | (go_at_call 76;refine(rmost_10 _ _).mono ?_;rintro e ws ⟨rfl,rfl⟩) | (go_at_call 76;refine(rmost_7 _ _).mono ?_;rintro e ws ⟨rfl,rfl⟩) | (go_at_call 76;refine(rmost_16 _ _).mono ?_;rintro e ws ⟨rfl,rfl⟩));go_quiet ((first | (go_at_call 76;with_reducible exact Calls.quiet_of_same ((rmost_16 false _).mono (fun _ _ h=>⟨h.1,h.2.symm⟩))) | (go_at_call 75;with_reducible exact Calls.quiet_of_same ((rin_any a 0 (rmo 16 false) _).mono (fun _ _ h=>⟨h.1,h.2.symm⟩)))));go_wp2_with fail;go_ret;exact⟨ret_b (Eq.trans (by first | (simp [rng,mosts,rmo];done) | (simp [rng,mosts,rmo];omega) | (rw [Bool.eq_iff_iff];simp [rng,mosts,rmo] <;> omega)) HV.out.symm),drewN_below (by go_grown) _⟩
    case true =>
      go_enter Tryz.func44,Tryz.ntmps44;go_wp2_with (first | (go_at_call 74;refine(rOperands_26 _).mono ?_;rintro e ws ⟨rfl,rfl⟩) | (go_at_call 75;refine(rin_any _ _ _ _).mono ?_;rintro e ws ⟨rfl,rfl⟩) | (go_at_call 76;refine(rmost_10 _ _).mono ?_;rintro e ws ⟨rfl,rfl⟩) | (go_at_call 76;refine(rmost_7 _ _).mono ?_;rintro e ws ⟨rfl,rfl⟩) | (go_at_call 76;refine(rmost_16 _ _).mono ?_;rintro e ws ⟨rfl,rfl⟩));go_quiet ((first | (go_at_call 76;with_reducible exact Calls.quiet_of_same ((rmost_16 true _).mono (fun _ _ h=>⟨h.1,h.2.symm⟩))) | (go_at_call 75;with_reducible exact Calls.quiet_of_same ((rin_any a 0 (rmo 16 true) _).mono (fun _ _ h=>⟨h.1,h.2.symm⟩)))));go_wp2_with fail;go_ret;exact⟨ret_b (Eq.trans (by first | (simp [rng,mosts,rmo];done) | (simp [rng,mosts,rmo];omega) | (rw [Bool.eq_iff_iff];simp [rng,mosts,rmo] <;> omega)) HV.out.symm),drewN_below (by go_grown) _⟩
  · have hb2 : (b == 0) = false := by simpa using hb
    have hb3:(b != 0)=true:=(by simpa using hb);go_enter Tryz.func44,Tryz.ntmps44;go_wp2_with (first | (go_at_call 74;refine(rOperands_26 _).mono ?_;rintro e ws ⟨rfl,rfl⟩) | (go_at_call 75;refine(rin_any _ _ _ _).mono ?_;rintro e ws ⟨rfl,rfl⟩) | (go_at_call 76;refine(rmost_10 _ _).mono ?_;rintro e ws ⟨rfl,rfl⟩) | (go_at_call 76;refine(rmost_7 _ _).mono ?_;rintro e ws ⟨rfl,rfl⟩) | (go_at_call 76;refine(rmost_16 _ _).mono ?_;rintro e ws ⟨rfl,rfl⟩));go_ret;exact⟨ret_b (Eq.trans (by first | (simp [rng,mosts,rmo,hb];done) | (simp [rng,mosts,rmo,hb];omega) | (rw [Bool.eq_iff_iff];simp [rng,mosts,rmo,hb] <;> omega)) HV.out.symm),by go_grown⟩
set_option maxHeartbeats 4000000 in
theorem rValid_27 (a b:Int) (p:Bool) (w:World) :
    Calls Tryz.prog 44 #[.agg #[.int .i64 27,.int .i64 a,.int .i64 b],.bool p] w fun e w'=>e=.returned (.bool (vld 27 a b p))∧Below w.heap.size w w':=by
  have HV:=hide (vld_nat 27 (by omega) a b p);have s1:(sp 27).a=10:=rfl;have s2:(sp 27).b=0:=rfl;rw [s1,s2] at HV;clear s1 s2;by_cases hb:b=0
  · subst hb
    go_enter Tryz.func44,Tryz.ntmps44;go_wp2_with (first | (go_at_call 74;refine(rOperands_27 _).mono ?_;rintro e ws ⟨rfl,rfl⟩) | (go_at_call 75;refine(rin_any _ _ _ _).mono ?_;rintro e ws ⟨rfl,rfl⟩) | (go_at_call 76;refine(rmost_10 _ _).mono ?_;rintro e ws ⟨rfl,rfl⟩) | (go_at_call 76;refine(rmost_7 _ _).mono ?_;rintro e ws ⟨rfl,rfl⟩) | (go_at_call 76;refine(rmost_16 _ _).mono ?_;rintro e ws ⟨rfl,rfl⟩));go_ret;exact⟨ret_b (Eq.trans (by first | (simp [rng,mosts,rmo];done) | (simp [rng,mosts,rmo];omega) | (rw [Bool.eq_iff_iff];simp [rng,mosts,rmo] <;> omega)) HV.out.symm),by go_grown⟩
  · have hb2 : (b == 0) = false := by simpa using hb
    have hb3:(b != 0)=true:=(by simpa using hb);go_enter Tryz.func44,Tryz.ntmps44;go_wp2_with (first | (go_at_call 74;refine(rOperands_27 _).mono ?_;rintro e ws ⟨rfl,rfl⟩) | (go_at_call 75;refine(rin_any _ _ _ _).mono ?_;rintro e ws ⟨rfl,rfl⟩) | (go_at_call 76;refine(rmost_10 _ _).mono ?_;rintro e ws ⟨rfl,rfl⟩) | (go_at_call 76;refine(rmost_7 _ _).mono ?_;rintro e ws ⟨rfl,rfl⟩) | (go_at_call 76;refine(rmost_16 _ _).mono ?_;rintro e ws ⟨rfl,rfl⟩));go_ret;exact⟨ret_b (Eq.trans (by first | (simp [rng,mosts,rmo,hb];done) | (simp [rng,mosts,rmo,hb];omega) | (rw [Bool.eq_iff_iff];simp [rng,mosts,rmo,hb] <;> omega)) HV.out.symm),by go_grown⟩
set_option maxHeartbeats 4000000 in
theorem rValid_28 (a b:Int) (p:Bool) (w:World) :
    Calls Tryz.prog 44 #[.agg #[.int .i64 28,.int .i64 a,.int .i64 b],.bool p] w fun e w'=>e=.returned (.bool (vld 28 a b p))∧Below w.heap.size w w':=by
  have HV:=hide (vld_nat 28 (by omega) a b p);have s1:(sp 28).a=11:=rfl;have s2:(sp 28).b=0:=rfl;rw [s1,s2] at HV;clear s1 s2;by_cases hb:b=0
  · subst hb
    go_enter Tryz.func44,Tryz.ntmps44;go_wp2_with (first | (go_at_call 74;refine(rOperands_28 _).mono ?_;rintro e ws ⟨rfl,rfl⟩) | (go_at_call 75;refine(rin_any _ _ _ _).mono ?_;rintro e ws ⟨rfl,rfl⟩) | (go_at_call 76;refine(rmost_10 _ _).mono ?_;rintro e ws ⟨rfl,rfl⟩) | (go_at_call 76;refine(rmost_7 _ _).mono ?_;rintro e ws ⟨rfl,rfl⟩) | (go_at_call 76;refine(rmost_16 _ _).mono ?_;rintro e ws ⟨rfl,rfl⟩));go_ret;exact⟨ret_b (Eq.trans (by first | (simp [rng,mosts,rmo];done) | (simp [rng,mosts,rmo];omega) | (rw [Bool.eq_iff_iff];simp [rng,mosts,rmo] <;> omega)) HV.out.symm),by go_grown⟩
  · have hb2 : (b == 0) = false := by simpa using hb
    have hb3:(b != 0)=true:=(by simpa using hb);go_enter Tryz.func44,Tryz.ntmps44;go_wp2_with (first | (go_at_call 74;refine(rOperands_28 _).mono ?_;rintro e ws ⟨rfl,rfl⟩) | (go_at_call 75;refine(rin_any _ _ _ _).mono ?_;rintro e ws ⟨rfl,rfl⟩) | (go_at_call 76;refine(rmost_10 _ _).mono ?_;rintro e ws ⟨rfl,rfl⟩) | (go_at_call 76;refine(rmost_7 _ _).mono ?_;rintro e ws ⟨rfl,rfl⟩) | (go_at_call 76;refine(rmost_16 _ _).mono ?_;rintro e ws ⟨rfl,rfl⟩));go_ret;exact⟨ret_b (Eq.trans (by first | (simp [rng,mosts,rmo,hb];done) | (simp [rng,mosts,rmo,hb];omega) | (rw [Bool.eq_iff_iff];simp [rng,mosts,rmo,hb] <;> omega)) HV.out.symm),by go_grown⟩
set_option maxHeartbeats 4000000 in
theorem rValid_29 (a b:Int) (p:Bool) (w:World) :
    Calls Tryz.prog 44 #[.agg #[.int .i64 29,.int .i64 a,.int .i64 b],.bool p] w fun e w'=>e=.returned (.bool (vld 29 a b p))∧Below w.heap.size w w':=by
  have HV:=hide (vld_nat 29 (by omega) a b p);have s1:(sp 29).a=0:=rfl;have s2:(sp 29).b=0:=rfl;rw [s1,s2] at HV;clear s1 s2;by_cases hb:b=0
  · subst hb
    by_cases ha:a=0
    · subst ha
      go_enter Tryz.func44,Tryz.ntmps44;go_wp2_with (first | (go_at_call 74;refine(rOperands_29 _).mono ?_;rintro e ws ⟨rfl,rfl⟩) | (go_at_call 75;refine(rin_any _ _ _ _).mono ?_;rintro e ws ⟨rfl,rfl⟩) | (go_at_call 76;refine(rmost_10 _ _).mono ?_;rintro e ws ⟨rfl,rfl⟩) | (go_at_call 76;refine(rmost_7 _ _).mono ?_;rintro e ws ⟨rfl,rfl⟩) | (go_at_call 76;refine(rmost_16 _ _).mono ?_;rintro e ws ⟨rfl,rfl⟩));go_ret;exact⟨ret_b (Eq.trans (by first | (simp [rng,mosts,rmo];done) | (simp [rng,mosts,rmo];omega) | (rw [Bool.eq_iff_iff];simp [rng,mosts,rmo] <;> omega)) HV.out.symm),by go_grown⟩
    · have ha2 : (a == 0) = false := by simpa using ha
      have ha3:(a != 0)=true:=(by simpa using ha);go_enter Tryz.func44,Tryz.ntmps44;go_wp2_with (first | (go_at_call 74;refine(rOperands_29 _).mono ?_;rintro e ws ⟨rfl,rfl⟩) | (go_at_call 75;refine(rin_any _ _ _ _).mono ?_;rintro e ws ⟨rfl,rfl⟩) | (go_at_call 76;refine(rmost_10 _ _).mono ?_;rintro e ws ⟨rfl,rfl⟩) | (go_at_call 76;refine(rmost_7 _ _).mono ?_;rintro e ws ⟨rfl,rfl⟩) | (go_at_call 76;refine(rmost_16 _ _).mono ?_;rintro e ws ⟨rfl,rfl⟩));go_ret;exact⟨ret_b (Eq.trans (by first | (simp [rng,mosts,rmo,ha];done) | (simp [rng,mosts,rmo,ha];omega) | (rw [Bool.eq_iff_iff];simp [rng,mosts,rmo,ha] <;> omega)) HV.out.symm),by go_grown⟩
  · have hb2 : (b == 0) = false := by simpa using hb
    have hb3:(b != 0)=true:=(by simpa using hb);go_enter Tryz.func44,Tryz.ntmps44;go_wp2_with (first | (go_at_call 74;refine(rOperands_29 _).mono ?_;rintro e ws ⟨rfl,rfl⟩) | (go_at_call 75;refine(rin_any _ _ _ _).mono ?_;rintro e ws ⟨rfl,rfl⟩) | (go_at_call 76;refine(rmost_10 _ _).mono ?_;rintro e ws ⟨rfl,rfl⟩) | (go_at_call 76;refine(rmost_7 _ _).mono ?_;rintro e ws ⟨rfl,rfl⟩) | (go_at_call 76;refine(rmost_16 _ _).mono ?_;rintro e ws ⟨rfl,rfl⟩));go_ret;exact⟨ret_b (Eq.trans (by first | (simp [rng,mosts,rmo,hb];done) | (simp [rng,mosts,rmo,hb];omega) | (rw [Bool.eq_iff_iff];simp [rng,mosts,rmo,hb] <;> omega)) HV.out.symm),by go_grown⟩
set_option maxHeartbeats 4000000 in
theorem rValid_31 (a b:Int) (p:Bool) (w:World) :
    Calls Tryz.prog 44 #[.agg #[.int .i64 31,.int .i64 a,.int .i64 b],.bool p] w fun e w'=>e=.returned (.bool (vld 31 a b p))∧Below w.heap.size w w':=by
  have HV:=hide (vld_nat 31 (by omega) a b p);have s1:(sp 31).a=13:=rfl;have s2:(sp 31).b=0:=rfl;rw [s1,s2] at HV;clear s1 s2;by_cases hb:b=0
  · subst hb
    go_enter Tryz.func44,Tryz.ntmps44;go_wp2_with (first | (go_at_call 74;refine(rOperands_31 _).mono ?_;rintro e ws ⟨rfl,rfl⟩) | (go_at_call 75;refine(rin_any _ _ _ _).mono ?_;rintro e ws ⟨rfl,rfl⟩) | (go_at_call 76;refine(rmost_10 _ _).mono ?_;rintro e ws ⟨rfl,rfl⟩) | (go_at_call 76;refine(rmost_7 _ _).mono ?_;rintro e ws ⟨rfl,rfl⟩) | (go_at_call 76;refine(rmost_16 _ _).mono ?_;rintro e ws ⟨rfl,rfl⟩));go_ret;exact⟨ret_b (Eq.trans (by first | (simp [rng,mosts,rmo];done) | (simp [rng,mosts,rmo];omega) | (rw [Bool.eq_iff_iff];simp [rng,mosts,rmo] <;> omega)) HV.out.symm),by go_grown⟩
  · have hb2 : (b == 0) = false := by simpa using hb
    have hb3:(b != 0)=true:=(by simpa using hb);go_enter Tryz.func44,Tryz.ntmps44;go_wp2_with (first | (go_at_call 74;refine(rOperands_31 _).mono ?_;rintro e ws ⟨rfl,rfl⟩) | (go_at_call 75;refine(rin_any _ _ _ _).mono ?_;rintro e ws ⟨rfl,rfl⟩) | (go_at_call 76;refine(rmost_10 _ _).mono ?_;rintro e ws ⟨rfl,rfl⟩) | (go_at_call 76;refine(rmost_7 _ _).mono ?_;rintro e ws ⟨rfl,rfl⟩) | (go_at_call 76;refine(rmost_16 _ _).mono ?_;rintro e ws ⟨rfl,rfl⟩));go_ret;exact⟨ret_b (Eq.trans (by first | (simp [rng,mosts,rmo,hb];done) | (simp [rng,mosts,rmo,hb];omega) | (rw [Bool.eq_iff_iff];simp [rng,mosts,rmo,hb] <;> omega)) HV.out.symm),by go_grown⟩
set_option maxHeartbeats 4000000 in
theorem rValid_32 (a b:Int) (p:Bool) (w:World) :
    Calls Tryz.prog 44 #[.agg #[.int .i64 32,.int .i64 a,.int .i64 b],.bool p] w fun e w'=>e=.returned (.bool (vld 32 a b p))∧Below w.heap.size w w':=by
  have HV:=hide (vld_nat 32 (by omega) a b p);have s1:(sp 32).a=14:=rfl;have s2:(sp 32).b=0:=rfl;rw [s1,s2] at HV;clear s1 s2;by_cases hb:b=0
  · subst hb
    go_enter Tryz.func44,Tryz.ntmps44;go_wp2_with (first | (go_at_call 74;refine(rOperands_32 _).mono ?_;rintro e ws ⟨rfl,rfl⟩) | (go_at_call 75;refine(rin_any _ _ _ _).mono ?_;rintro e ws ⟨rfl,rfl⟩) | (go_at_call 76;refine(rmost_10 _ _).mono ?_;rintro e ws ⟨rfl,rfl⟩) | (go_at_call 76;refine(rmost_7 _ _).mono ?_;rintro e ws ⟨rfl,rfl⟩) | (go_at_call 76;refine(rmost_16 _ _).mono ?_;rintro e ws ⟨rfl,rfl⟩));go_ret;exact⟨ret_b (Eq.trans (by first | (simp [rng,mosts,rmo];done) | (simp [rng,mosts,rmo];omega) | (rw [Bool.eq_iff_iff];simp [rng,mosts,rmo] <;> omega)) HV.out.symm),by go_grown⟩
  · have hb2 : (b == 0) = false := by simpa using hb
    have hb3:(b != 0)=true:=(by simpa using hb);go_enter Tryz.func44,Tryz.ntmps44;go_wp2_with (first | (go_at_call 74;refine(rOperands_32 _).mono ?_;rintro e ws ⟨rfl,rfl⟩) | (go_at_call 75;refine(rin_any _ _ _ _).mono ?_;rintro e ws ⟨rfl,rfl⟩) | (go_at_call 76;refine(rmost_10 _ _).mono ?_;rintro e ws ⟨rfl,rfl⟩) | (go_at_call 76;refine(rmost_7 _ _).mono ?_;rintro e ws ⟨rfl,rfl⟩) | (go_at_call 76;refine(rmost_16 _ _).mono ?_;rintro e ws ⟨rfl,rfl⟩));go_ret;exact⟨ret_b (Eq.trans (by first | (simp [rng,mosts,rmo,hb];done) | (simp [rng,mosts,rmo,hb];omega) | (rw [Bool.eq_iff_iff];simp [rng,mosts,rmo,hb] <;> omega)) HV.out.symm),by go_grown⟩
set_option maxHeartbeats 4000000 in
theorem rValid_33 (a b:Int) (p:Bool) (w:World) :
    Calls Tryz.prog 44 #[.agg #[.int .i64 33,.int .i64 a,.int .i64 b],.bool p] w fun e w'=>e=.returned (.bool (vld 33 a b p))∧Below w.heap.size w w':=by
  have HV:=hide (vld_nat 33 (by omega) a b p);have s1:(sp 33).a=0:=rfl;have s2:(sp 33).b=0:=rfl;rw [s1,s2] at HV;clear s1 s2;by_cases hb:b=0
  · subst hb
    by_cases ha:a=0
    · subst ha
      go_enter Tryz.func44,Tryz.ntmps44;go_wp2_with (first | (go_at_call 74;refine(rOperands_33 _).mono ?_;rintro e ws ⟨rfl,rfl⟩) | (go_at_call 75;refine(rin_any _ _ _ _).mono ?_;rintro e ws ⟨rfl,rfl⟩) | (go_at_call 76;refine(rmost_10 _ _).mono ?_;rintro e ws ⟨rfl,rfl⟩) | (go_at_call 76;refine(rmost_7 _ _).mono ?_;rintro e ws ⟨rfl,rfl⟩) | (go_at_call 76;refine(rmost_16 _ _).mono ?_;rintro e ws ⟨rfl,rfl⟩));go_ret;exact⟨ret_b (Eq.trans (by first | (simp [rng,mosts,rmo];done) | (simp [rng,mosts,rmo];omega) | (rw [Bool.eq_iff_iff];simp [rng,mosts,rmo] <;> omega)) HV.out.symm),by go_grown⟩
    · have ha2 : (a == 0) = false := by simpa using ha
      have ha3:(a != 0)=true:=(by simpa using ha);go_enter Tryz.func44,Tryz.ntmps44;go_wp2_with (first | (go_at_call 74;refine(rOperands_33 _).mono ?_;rintro e ws ⟨rfl,rfl⟩) | (go_at_call 75;refine(rin_any _ _ _ _).mono ?_;rintro e ws ⟨rfl,rfl⟩) | (go_at_call 76;refine(rmost_10 _ _).mono ?_;rintro e ws ⟨rfl,rfl⟩) | (go_at_call 76;refine(rmost_7 _ _).mono ?_;rintro e ws ⟨rfl,rfl⟩) | (go_at_call 76;refine(rmost_16 _ _).mono ?_;rintro e ws ⟨rfl,rfl⟩));go_ret;exact⟨ret_b (Eq.trans (by first | (simp [rng,mosts,rmo,ha];done) | (simp [rng,mosts,rmo,ha];omega) | (rw [Bool.eq_iff_iff];simp [rng,mosts,rmo,ha] <;> omega)) HV.out.symm),by go_grown⟩
  · have hb2 : (b == 0) = false := by simpa using hb
    have hb3:(b != 0)=true:=(by simpa using hb);go_enter Tryz.func44,Tryz.ntmps44;go_wp2_with (first | (go_at_call 74;refine(rOperands_33 _).mono ?_;rintro e ws ⟨rfl,rfl⟩) | (go_at_call 75;refine(rin_any _ _ _ _).mono ?_;rintro e ws ⟨rfl,rfl⟩) | (go_at_call 76;refine(rmost_10 _ _).mono ?_;rintro e ws ⟨rfl,rfl⟩) | (go_at_call 76;refine(rmost_7 _ _).mono ?_;rintro e ws ⟨rfl,rfl⟩) | (go_at_call 76;refine(rmost_16 _ _).mono ?_;rintro e ws ⟨rfl,rfl⟩));go_ret;exact⟨ret_b (Eq.trans (by first | (simp [rng,mosts,rmo,hb];done) | (simp [rng,mosts,rmo,hb];omega) | (rw [Bool.eq_iff_iff];simp [rng,mosts,rmo,hb] <;> omega)) HV.out.symm),by go_grown⟩
set_option maxHeartbeats 4000000 in
theorem rValid_34 (a b:Int) (p:Bool) (w:World) :
    Calls Tryz.prog 44 #[.agg #[.int .i64 34,.int .i64 a,.int .i64 b],.bool p] w fun e w'=>e=.returned (.bool (vld 34 a b p))∧Below w.heap.size w w':=by
  have HV:=hide (vld_nat 34 (by omega) a b p);have s1:(sp 34).a=0:=rfl;have s2:(sp 34).b=0:=rfl;rw [s1,s2] at HV;clear s1 s2;by_cases hb:b=0
  · subst hb
    by_cases ha:a=0
    · subst ha
      go_enter Tryz.func44,Tryz.ntmps44;go_wp2_with (first | (go_at_call 74;refine(rOperands_34 _).mono ?_;rintro e ws ⟨rfl,rfl⟩) | (go_at_call 75;refine(rin_any _ _ _ _).mono ?_;rintro e ws ⟨rfl,rfl⟩) | (go_at_call 76;refine(rmost_10 _ _).mono ?_;rintro e ws ⟨rfl,rfl⟩) | (go_at_call 76;refine(rmost_7 _ _).mono ?_;rintro e ws ⟨rfl,rfl⟩) | (go_at_call 76;refine(rmost_16 _ _).mono ?_;rintro e ws ⟨rfl,rfl⟩));go_ret;exact⟨ret_b (Eq.trans (by first | (simp [rng,mosts,rmo];done) | (simp [rng,mosts,rmo];omega) | (rw [Bool.eq_iff_iff];simp [rng,mosts,rmo] <;> omega)) HV.out.symm),by go_grown⟩
    · have ha2 : (a == 0) = false := by simpa using ha
      have ha3:(a != 0)=true:=(by simpa using ha);go_enter Tryz.func44,Tryz.ntmps44;go_wp2_with (first | (go_at_call 74;refine(rOperands_34 _).mono ?_;rintro e ws ⟨rfl,rfl⟩) | (go_at_call 75;refine(rin_any _ _ _ _).mono ?_;rintro e ws ⟨rfl,rfl⟩) | (go_at_call 76;refine(rmost_10 _ _).mono ?_;rintro e ws ⟨rfl,rfl⟩) | (go_at_call 76;refine(rmost_7 _ _).mono ?_;rintro e ws ⟨rfl,rfl⟩) | (go_at_call 76;refine(rmost_16 _ _).mono ?_;rintro e ws ⟨rfl,rfl⟩));go_ret;exact⟨ret_b (Eq.trans (by first | (simp [rng,mosts,rmo,ha];done) | (simp [rng,mosts,rmo,ha];omega) | (rw [Bool.eq_iff_iff];simp [rng,mosts,rmo,ha] <;> omega)) HV.out.symm),by go_grown⟩
  · have hb2 : (b == 0) = false := by simpa using hb
    have hb3:(b != 0)=true:=(by simpa using hb);go_enter Tryz.func44,Tryz.ntmps44;go_wp2_with (first | (go_at_call 74;refine(rOperands_34 _).mono ?_;rintro e ws ⟨rfl,rfl⟩) | (go_at_call 75;refine(rin_any _ _ _ _).mono ?_;rintro e ws ⟨rfl,rfl⟩) | (go_at_call 76;refine(rmost_10 _ _).mono ?_;rintro e ws ⟨rfl,rfl⟩) | (go_at_call 76;refine(rmost_7 _ _).mono ?_;rintro e ws ⟨rfl,rfl⟩) | (go_at_call 76;refine(rmost_16 _ _).mono ?_;rintro e ws ⟨rfl,rfl⟩));go_ret;exact⟨ret_b (Eq.trans (by first | (simp [rng,mosts,rmo,hb];done) | (simp [rng,mosts,rmo,hb];omega) | (rw [Bool.eq_iff_iff];simp [rng,mosts,rmo,hb] <;> omega)) HV.out.symm),by go_grown⟩
set_option maxHeartbeats 4000000 in
theorem rValid_35 (a b:Int) (p:Bool) (w:World) :
    Calls Tryz.prog 44 #[.agg #[.int .i64 35,.int .i64 a,.int .i64 b],.bool p] w fun e w'=>e=.returned (.bool (vld 35 a b p))∧Below w.heap.size w w':=by
  have HV:=hide (vld_nat 35 (by omega) a b p);have s1:(sp 35).a=0:=rfl;have s2:(sp 35).b=0:=rfl;rw [s1,s2] at HV;clear s1 s2;by_cases hb:b=0
  · subst hb
    by_cases ha:a=0
    · subst ha
      go_enter Tryz.func44,Tryz.ntmps44;go_wp2_with (first | (go_at_call 74;refine(rOperands_35 _).mono ?_;rintro e ws ⟨rfl,rfl⟩) | (go_at_call 75;refine(rin_any _ _ _ _).mono ?_;rintro e ws ⟨rfl,rfl⟩) | (go_at_call 76;refine(rmost_10 _ _).mono ?_;rintro e ws ⟨rfl,rfl⟩) | (go_at_call 76;refine(rmost_7 _ _).mono ?_;rintro e ws ⟨rfl,rfl⟩) | (go_at_call 76;refine(rmost_16 _ _).mono ?_;rintro e ws ⟨rfl,rfl⟩));go_ret;exact⟨ret_b (Eq.trans (by first | (simp [rng,mosts,rmo];done) | (simp [rng,mosts,rmo];omega) | (rw [Bool.eq_iff_iff];simp [rng,mosts,rmo] <;> omega)) HV.out.symm),by go_grown⟩
    · have ha2 : (a == 0) = false := by simpa using ha
      have ha3:(a != 0)=true:=(by simpa using ha);go_enter Tryz.func44,Tryz.ntmps44;go_wp2_with (first | (go_at_call 74;refine(rOperands_35 _).mono ?_;rintro e ws ⟨rfl,rfl⟩) | (go_at_call 75;refine(rin_any _ _ _ _).mono ?_;rintro e ws ⟨rfl,rfl⟩) | (go_at_call 76;refine(rmost_10 _ _).mono ?_;rintro e ws ⟨rfl,rfl⟩) | (go_at_call 76;refine(rmost_7 _ _).mono ?_;rintro e ws ⟨rfl,rfl⟩) | (go_at_call 76;refine(rmost_16 _ _).mono ?_;rintro e ws ⟨rfl,rfl⟩));go_ret;exact⟨ret_b (Eq.trans (by first | (simp [rng,mosts,rmo,ha];done) | (simp [rng,mosts,rmo,ha];omega) | (rw [Bool.eq_iff_iff];simp [rng,mosts,rmo,ha] <;> omega)) HV.out.symm),by go_grown⟩
  · have hb2 : (b == 0) = false := by simpa using hb
    have hb3:(b != 0)=true:=(by simpa using hb);go_enter Tryz.func44,Tryz.ntmps44;go_wp2_with (first | (go_at_call 74;refine(rOperands_35 _).mono ?_;rintro e ws ⟨rfl,rfl⟩) | (go_at_call 75;refine(rin_any _ _ _ _).mono ?_;rintro e ws ⟨rfl,rfl⟩) | (go_at_call 76;refine(rmost_10 _ _).mono ?_;rintro e ws ⟨rfl,rfl⟩) | (go_at_call 76;refine(rmost_7 _ _).mono ?_;rintro e ws ⟨rfl,rfl⟩) | (go_at_call 76;refine(rmost_16 _ _).mono ?_;rintro e ws ⟨rfl,rfl⟩));go_ret;exact⟨ret_b (Eq.trans (by first | (simp [rng,mosts,rmo,hb];done) | (simp [rng,mosts,rmo,hb];omega) | (rw [Bool.eq_iff_iff];simp [rng,mosts,rmo,hb] <;> omega)) HV.out.symm),by go_grown⟩
end Ec
end Go.Proofs.YtmjnakhpekbenaaGreat
namespace Go.Proofs.YtmjnakhpekbenaaGreat
open Go.RowKit Go.Sort
namespace Ec
set_option maxHeartbeats 4000000 in
theorem rin_b (n lo hi:Int) (v:Bool) (h:(decide (lo≤n) && decide (n≤hi))=v) (w:World):Calls Tryz.prog 75 #[.int .i64 n,.int .i64 lo,.int .i64 hi] w fun e w'=>e=.returned (.bool v)∧w=w':=by
  subst h;exact rin_any n lo hi w
set_option maxHeartbeats 4000000 in
theorem rValid_30 (a b:Int) (p:Bool) (w:World) :
    Calls Tryz.prog 44 #[.agg #[.int .i64 30,.int .i64 a,.int .i64 b],.bool p] w fun e w'=>e=.returned (.bool (vld 30 a b p))∧Below w.heap.size w w':=by
  have HV:=hide (vld_nat 30 (by omega) a b p);have s1:(sp 30).a=12:=rfl;have s2:(sp 30).b=2:=rfl;rw [s1,s2] at HV;clear s1 s2;by_cases ha:0≤a∧a≤50
  · obtain ⟨h1, h2⟩ := ha
    go_enter Tryz.func44,Tryz.ntmps44;go_wp2_with (first | (go_at_call 74;refine(rOperands_30 _).mono ?_;rintro e ws ⟨rfl,rfl⟩) | (go_at_call 75;refine(rin_any _ _ _ _).mono ?_;rintro e ws ⟨rfl,rfl⟩));go_ret;exact⟨ret_b (Eq.trans (by first | (simp [rng,mosts,rmo,h1,h2];done) | (simp [rng,mosts,rmo,h1,h2];omega) | (rw [Bool.eq_iff_iff];simp [rng,mosts,rmo,h1,h2] <;> omega)) HV.out.symm),by go_grown⟩
  · have hc : ¬ 0 ≤ a ∨ (0 ≤ a ∧ ¬ a ≤ 50) := by omega
    rcases hc with h1 | ⟨h1,h2⟩
    all_goals
      go_enter Tryz.func44,Tryz.ntmps44;go_wp2_with (first | (go_at_call 74;refine(rOperands_30 _).mono ?_;rintro e ws ⟨rfl,rfl⟩) | (go_at_call 75;refine(rin_any _ _ _ _).mono ?_;rintro e ws ⟨rfl,rfl⟩));go_ret;exact⟨ret_b (Eq.trans (by first | (simp [rng,mosts,rmo];done) | (simp [rng,mosts,rmo];omega) | (rw [Bool.eq_iff_iff];simp [rng,mosts,rmo] <;> omega)) HV.out.symm),by go_grown⟩
set_option maxHeartbeats 4000000 in
theorem rValid_16 (a b:Int) (p:Bool) (w:World) :
    Calls Tryz.prog 44 #[.agg #[.int .i64 16,.int .i64 a,.int .i64 b],.bool p] w fun e w'=>e=.returned (.bool (vld 16 a b p))∧Below w.heap.size w w':=by
  have HV:=hide (vld_nat 16 (by omega) a b p);have s1:(sp 16).a=5:=rfl;have s2:(sp 16).b=4:=rfl;rw [s1,s2] at HV;clear s1 s2;cases p
  case false =>
    by_cases ha:0≤a∧a≤48
    · obtain ⟨h1, h2⟩ := ha
      have hA:(decide (0≤a) && decide (a≤48))=true:=(by simp [h1,h2]);go_enter Tryz.func44,Tryz.ntmps44;go_wp2_with (first | (go_at_call 74;refine(rOperands_16 _).mono ?_;rintro e ws ⟨rfl,rfl⟩) | (go_at_call 75;refine(rin_any _ _ _ _).mono ?_;rintro e ws ⟨rfl,rfl⟩));go_quiet ((first | (go_at_call 75;with_reducible exact Calls.quiet_of_same ((rin_b a 0 48 true hA _).mono (fun _ _ h=>⟨h.1,h.2.symm⟩))) | (go_at_call 76;with_reducible exact Calls.quiet_of_same ((rmost_10 false _).mono (fun _ _ h=>⟨h.1,h.2.symm⟩))) | (go_at_call 75;with_reducible exact Calls.quiet_of_same ((rin_any b 0 (rmo 10 false) _).mono (fun _ _ h=>⟨h.1,h.2.symm⟩)))));go_wp2_with fail;go_ret;exact⟨ret_b (Eq.trans (by first | (simp [rng,mosts,rmo,h1,h2];done) | (simp [rng,mosts,rmo,h1,h2];omega) | (rw [Bool.eq_iff_iff];simp [rng,mosts,rmo,h1,h2] <;> omega)) HV.out.symm),drewN_below (by go_grown) _⟩
    · have hA : (decide (0 ≤ a) && decide (a ≤ 48)) = false := by simp; omega
      have hB:rng a 5 false=false:=(by simp [rng,mosts];omega);go_enter Tryz.func44,Tryz.ntmps44;go_wp2_with (first | (go_at_call 74;refine(rOperands_16 _).mono ?_;rintro e ws ⟨rfl,rfl⟩) | (go_at_call 75;refine(rin_any _ _ _ _).mono ?_;rintro e ws ⟨rfl,rfl⟩));go_quiet ((first | (go_at_call 75;with_reducible exact Calls.quiet_of_same ((rin_b a 0 48 false hA _).mono (fun _ _ h=>⟨h.1,h.2.symm⟩)))));go_wp2_with fail;go_ret;exact⟨ret_b (Eq.trans (by first | (simp [rng,mosts,rmo,hB];done) | (simp [rng,mosts,rmo,hB];omega) | (rw [Bool.eq_iff_iff];simp [rng,mosts,rmo,hB] <;> omega)) HV.out.symm),drewN_below (by go_grown) _⟩
  case true =>
    by_cases ha:0≤a∧a≤48
    · obtain ⟨h1, h2⟩ := ha
      have hA:(decide (0≤a) && decide (a≤48))=true:=(by simp [h1,h2]);go_enter Tryz.func44,Tryz.ntmps44;go_wp2_with (first | (go_at_call 74;refine(rOperands_16 _).mono ?_;rintro e ws ⟨rfl,rfl⟩) | (go_at_call 75;refine(rin_any _ _ _ _).mono ?_;rintro e ws ⟨rfl,rfl⟩));go_quiet ((first | (go_at_call 75;with_reducible exact Calls.quiet_of_same ((rin_b a 0 48 true hA _).mono (fun _ _ h=>⟨h.1,h.2.symm⟩))) | (go_at_call 76;with_reducible exact Calls.quiet_of_same ((rmost_10 true _).mono (fun _ _ h=>⟨h.1,h.2.symm⟩))) | (go_at_call 75;with_reducible exact Calls.quiet_of_same ((rin_any b 0 (rmo 10 true) _).mono (fun _ _ h=>⟨h.1,h.2.symm⟩)))));go_wp2_with fail;go_ret;exact⟨ret_b (Eq.trans (by first | (simp [rng,mosts,rmo,h1,h2];done) | (simp [rng,mosts,rmo,h1,h2];omega) | (rw [Bool.eq_iff_iff];simp [rng,mosts,rmo,h1,h2] <;> omega)) HV.out.symm),drewN_below (by go_grown) _⟩
    · have hA : (decide (0 ≤ a) && decide (a ≤ 48)) = false := by simp; omega
      have hB:rng a 5 true=false:=(by simp [rng,mosts];omega);go_enter Tryz.func44,Tryz.ntmps44;go_wp2_with (first | (go_at_call 74;refine(rOperands_16 _).mono ?_;rintro e ws ⟨rfl,rfl⟩) | (go_at_call 75;refine(rin_any _ _ _ _).mono ?_;rintro e ws ⟨rfl,rfl⟩));go_quiet ((first | (go_at_call 75;with_reducible exact Calls.quiet_of_same ((rin_b a 0 48 false hA _).mono (fun _ _ h=>⟨h.1,h.2.symm⟩)))));go_wp2_with fail;go_ret;exact⟨ret_b (Eq.trans (by first | (simp [rng,mosts,rmo,hB];done) | (simp [rng,mosts,rmo,hB];omega) | (rw [Bool.eq_iff_iff];simp [rng,mosts,rmo,hB] <;> omega)) HV.out.symm),drewN_below (by go_grown) _⟩
set_option maxHeartbeats 4000000 in
theorem rValid_12 (a b:Int) (p:Bool) (w:World) :
    Calls Tryz.prog 44 #[.agg #[.int .i64 12,.int .i64 a,.int .i64 b],.bool p] w fun e w'=>e=.returned (.bool (vld 12 a b p))∧Below w.heap.size w w':=by
  have HV:=hide (vld_nat 12 (by omega) a b p);have s1:(sp 12).a=3:=rfl;have s2:(sp 12).b=4:=rfl;rw [s1,s2] at HV;clear s1 s2;by_cases ha3:a=3
  · subst ha3
    cases p
    all_goals
      go_enter Tryz.func44,Tryz.ntmps44;go_wp2_with (first | (go_at_call 74;refine(rOperands_12 _).mono ?_;rintro e ws ⟨rfl,rfl⟩) | (go_at_call 75;refine(rin_any _ _ _ _).mono ?_;rintro e ws ⟨rfl,rfl⟩));go_ret;exact⟨ret_b (Eq.trans (by first | (simp [rng,mosts,rmo];done) | (simp [rng,mosts,rmo];omega) | (rw [Bool.eq_iff_iff];simp [rng,mosts,rmo] <;> omega)) HV.out.symm),by go_grown⟩
  · have ha4 : (a == 3) = false := by simpa using ha3
    cases p
    case false =>
      by_cases ha:2≤a∧a≤4
      · obtain ⟨h1, h2⟩ := ha
        have hA:(decide (2≤a) && decide (a≤4))=true:=(by simp [h1,h2]);go_enter Tryz.func44,Tryz.ntmps44;go_wp2_with (first | (go_at_call 74;refine(rOperands_12 _).mono ?_;rintro e ws ⟨rfl,rfl⟩) | (go_at_call 75;refine(rin_any _ _ _ _).mono ?_;rintro e ws ⟨rfl,rfl⟩));go_quiet ((first | (go_at_call 75;with_reducible exact Calls.quiet_of_same ((rin_b a 2 4 true hA _).mono (fun _ _ h=>⟨h.1,h.2.symm⟩))) | (go_at_call 76;with_reducible exact Calls.quiet_of_same ((rmost_10 false _).mono (fun _ _ h=>⟨h.1,h.2.symm⟩))) | (go_at_call 75;with_reducible exact Calls.quiet_of_same ((rin_any b 0 (rmo 10 false) _).mono (fun _ _ h=>⟨h.1,h.2.symm⟩)))));go_wp2_with fail;go_ret;exact⟨ret_b (Eq.trans (by first | (simp [rng,mosts,rmo,h1,h2,ha3,ha4];done) | (simp [rng,mosts,rmo,h1,h2,ha3,ha4];omega) | (rw [Bool.eq_iff_iff];simp [rng,mosts,rmo,h1,h2,ha3,ha4] <;> omega)) HV.out.symm),drewN_below (by go_grown) _⟩
      · have hA : (decide (2 ≤ a) && decide (a ≤ 4)) = false := by simp; omega
        have hB:rng a 3 false=false:=(by simp [rng,mosts];omega);go_enter Tryz.func44,Tryz.ntmps44;go_wp2_with (first | (go_at_call 74;refine(rOperands_12 _).mono ?_;rintro e ws ⟨rfl,rfl⟩) | (go_at_call 75;refine(rin_any _ _ _ _).mono ?_;rintro e ws ⟨rfl,rfl⟩));go_quiet ((first | (go_at_call 75;with_reducible exact Calls.quiet_of_same ((rin_b a 2 4 false hA _).mono (fun _ _ h=>⟨h.1,h.2.symm⟩)))));go_wp2_with fail;go_ret;exact⟨ret_b (Eq.trans (by first | (simp [rng,mosts,rmo,hB];done) | (simp [rng,mosts,rmo,hB];omega) | (rw [Bool.eq_iff_iff];simp [rng,mosts,rmo,hB] <;> omega)) HV.out.symm),drewN_below (by go_grown) _⟩
    case true =>
      by_cases ha:2≤a∧a≤4
      · obtain ⟨h1, h2⟩ := ha
        have hA:(decide (2≤a) && decide (a≤4))=true:=(by simp [h1,h2]);go_enter Tryz.func44,Tryz.ntmps44;go_wp2_with (first | (go_at_call 74;refine(rOperands_12 _).mono ?_;rintro e ws ⟨rfl,rfl⟩) | (go_at_call 75;refine(rin_any _ _ _ _).mono ?_;rintro e ws ⟨rfl,rfl⟩));go_quiet ((first | (go_at_call 75;with_reducible exact Calls.quiet_of_same ((rin_b a 2 4 true hA _).mono (fun _ _ h=>⟨h.1,h.2.symm⟩))) | (go_at_call 76;with_reducible exact Calls.quiet_of_same ((rmost_10 true _).mono (fun _ _ h=>⟨h.1,h.2.symm⟩))) | (go_at_call 75;with_reducible exact Calls.quiet_of_same ((rin_any b 0 (rmo 10 true) _).mono (fun _ _ h=>⟨h.1,h.2.symm⟩)))));go_wp2_with fail;go_ret;exact⟨ret_b (Eq.trans (by first | (simp [rng,mosts,rmo,h1,h2,ha3,ha4];done) | (simp [rng,mosts,rmo,h1,h2,ha3,ha4];omega) | (rw [Bool.eq_iff_iff];simp [rng,mosts,rmo,h1,h2,ha3,ha4] <;> omega)) HV.out.symm),drewN_below (by go_grown) _⟩
      · have hA : (decide (2 ≤ a) && decide (a ≤ 4)) = false := by simp; omega
        have hB:rng a 3 true=false:=(by simp [rng,mosts];omega);go_enter Tryz.func44,Tryz.ntmps44;go_wp2_with (first | (go_at_call 74;refine(rOperands_12 _).mono ?_;rintro e ws ⟨rfl,rfl⟩) | (go_at_call 75;refine(rin_any _ _ _ _).mono ?_;rintro e ws ⟨rfl,rfl⟩));go_quiet ((first | (go_at_call 75;with_reducible exact Calls.quiet_of_same ((rin_b a 2 4 false hA _).mono (fun _ _ h=>⟨h.1,h.2.symm⟩)))));go_wp2_with fail;go_ret;exact⟨ret_b (Eq.trans (by first | (simp [rng,mosts,rmo,hB];done) | (simp [rng,mosts,rmo,hB];omega) | (rw [Bool.eq_iff_iff];simp [rng,mosts,rmo,hB] <;> omega)) HV.out.symm),drewN_below (by go_grown) _⟩
end Ec
end Go.Proofs.YtmjnakhpekbenaaGreat
namespace Go.Proofs.YtmjnakhpekbenaaGreat
open Go.RowKit Go.Sort
namespace Ec
theorem rValid_any (op a b:Int) (p:Bool) (w:World) :
    Calls Tryz.prog 44 #[.agg #[.int .i64 op,.int .i64 a,.int .i64 b],.bool p] w fun e w'=>e=.returned (.bool (vld op a b p))∧Below w.heap.size w w':=by
  by_cases hop:0≤op∧op<36
  · have hc : op = 0 ∨ op = 1 ∨ op = 2 ∨ op = 3 ∨ op = 4 ∨ op = 5 ∨ op = 6 ∨ op = 7 ∨ op = 8 ∨ op = 9 ∨ op = 10 ∨ op = 11 ∨ op = 12 ∨ op = 13 ∨ op = 14 ∨ op = 15 ∨ op = 16 ∨ op = 17 ∨ op = 18 ∨ op = 19 ∨ op = 20 ∨ op = 21 ∨ op = 22 ∨ op = 23 ∨ op = 24 ∨ op = 25 ∨ op = 26 ∨ op = 27 ∨ op = 28 ∨ op = 29 ∨ op = 30 ∨ op = 31 ∨ op = 32 ∨ op = 33 ∨ op = 34 ∨ op = 35 := by omega
    rcases hc with rfl | rfl | rfl | rfl | rfl | rfl | rfl | rfl | rfl | rfl | rfl | rfl | rfl | rfl | rfl | rfl | rfl | rfl | rfl | rfl | rfl | rfl | rfl | rfl | rfl | rfl | rfl | rfl | rfl | rfl | rfl | rfl | rfl | rfl | rfl | rfl
    · exact rValid_0 a b p w
    · exact rValid_1 a b p w
    · exact rValid_2 a b p w
    · exact rValid_3 a b p w
    · exact rValid_4 a b p w
    · exact rValid_5 a b p w
    · exact rValid_6 a b p w
    · exact rValid_7 a b p w
    · exact rValid_8 a b p w
    · exact rValid_9 a b p w
    · exact rValid_10 a b p w
    · exact rValid_11 a b p w
    · exact rValid_12 a b p w
    · exact rValid_13 a b p w
    · exact rValid_14 a b p w
    · exact rValid_15 a b p w
    · exact rValid_16 a b p w
    · exact rValid_17 a b p w
    · exact rValid_18 a b p w
    · exact rValid_19 a b p w
    · exact rValid_20 a b p w
    · exact rValid_21 a b p w
    · exact rValid_22 a b p w
    · exact rValid_23 a b p w
    · exact rValid_24 a b p w
    · exact rValid_25 a b p w
    · exact rValid_26 a b p w
    · exact rValid_27 a b p w
    · exact rValid_28 a b p w
    · exact rValid_29 a b p w
    · exact rValid_30 a b p w
    · exact rValid_31 a b p w
    · exact rValid_32 a b p w
    · exact rValid_33 a b p w
    · exact rValid_34 a b p w
    · exact rValid_35 a b p w
  · have HV := hide (vld_bad (op := op) (a := a) (b := b) (p := p) (by omega))
    have hop2:op<0∨(¬ op<0∧35<op):=(by omega);have Hop:=hide (fun w=>rOperands_bad op hop2 w);clear hop hop2;go_enter Tryz.func44,Tryz.ntmps44;go_wp2_with (go_at_call 74;refine(Hop.out _).mono ?_;rintro e ws ⟨rfl,rfl⟩);go_ret;exact⟨ret_b (by rw [HV.out]),by go_grown⟩
end Ec
end Go.Proofs.YtmjnakhpekbenaaGreat
namespace Go.Proofs.YtmjnakhpekbenaaGreat
set_option maxRecDepth 20000
set_option maxHeartbeats 4000000
open Go.RowKit Fw
namespace Ec
theorem allV_no {c A B:Nat→Int} {pl:Bool} {n k:Nat} (hk:k<n) (h:vld (c k) (A k) (B k) pl=false):allV c A B pl n=false:=by
  cases q:allV c A B pl n
  · rfl
  · rw [allV_spec.1 q k hk] at h;cases h
theorem chk_2 {c A B:Nat→Int} {pl:Bool} {n:Nat} (h:(120:Int)<n):chk c A B pl n=2:=by unfold chk;rw [if_pos (by omega)]
theorem chk_1 {c A B:Nat→Int} {pl:Bool} {n k:Nat} (h:¬ (120:Int)<n) (hk:k<n) (hv:vld (c k) (A k) (B k) pl=false):chk c A B pl n=1:=by unfold chk;rw [if_neg (by omega),allV_no hk hv];rfl
theorem chk_7 {c A B:Nat→Int} {pl:Bool} {n:Nat} (h:¬ (120:Int)<n) (hv:∀ i,i<n→vld (c i) (A i) (B i) pl=true) (ho:okS c n=false):chk c A B pl n=7:=by unfold chk;rw [if_neg (by omega),allV_spec.2 hv,ho];rfl
theorem chk_0 {c A B:Nat→Int} {pl:Bool} {n:Nat} (h:¬ (120:Int)<n) (hv:∀ i,i<n→vld (c i) (A i) (B i) pl=true) (ho:okS c n=true):chk c A B pl n=0:=by unfold chk;rw [if_neg (by omega),allV_spec.2 hv,ho];rfl
theorem chk_bal {c A B:Nat→Int} {pl:Bool} {n:Nat} (h:chk c A B pl n=0):Bal c n (shD c n):=okS_bal (chk_ok h).2.2
theorem idE_bad {c A B:Nat→Int} {n:Nat} {at':Int} (h:chk c A B false n≠0):idE c A B n at'=chk c A B false n:=by unfold idE;rw [if_neg h]
theorem idE_out {c A B:Nat→Int} {n:Nat} {at':Int} (h:chk c A B false n=0) (h2:¬ (0≤at'∧at'<n)):idE c A B n at'=1:=by unfold idE;rw [if_pos h,if_neg h2]
theorem idE_in {c A B:Nat→Int} {n:Nat} {at':Int} (h:chk c A B false n=0) (h2:0≤at'∧at'<n):idE c A B n at'=0:=by unfold idE;rw [if_pos h,if_pos h2]
def opF (c A B:Nat→Int) (n:Nat) (at':Int):Int:=if idE c A B n at'≠0 then idE c A B n at' else if (shD c n).o at'.toNat<0 then 3 else 0
def opO (c A B:Nat→Int) (n:Nat) (at':Int):Int:=if opF c A B n at'=0 then (shD c n).o at'.toNat else 0
theorem op_bad {c A B:Nat→Int} {n:Nat} {at' er:Int} (h:er≠0) (hE:idE c A B n at'=er):opF c A B n at'=er∧opO c A B n at'=0:=by
  have e:opF c A B n at'=er:=(by unfold opF;rw [hE,if_pos h]);exact⟨e,by unfold opO;rw [e,if_neg h]⟩
theorem op_none {c A B:Nat→Int} {n k:Nat} (hE:idE c A B n (k:Int)=0) (h:(shD c n).o k<0):opF c A B n (k:Int)=3∧opO c A B n (k:Int)=0:=by
  have e:opF c A B n (k:Int)=3:=(by unfold opF;rw [hE,if_neg (by simp),if_pos (by simpa using h)]);exact⟨e,by unfold opO;rw [e];rfl⟩
theorem op_ok {c A B:Nat→Int} {n k:Nat} (hE:idE c A B n (k:Int)=0) (h:¬ (shD c n).o k<0):opF c A B n (k:Int)=0∧opO c A B n (k:Int)=(shD c n).o k:=by
  have e:opF c A B n (k:Int)=0:=(by unfold opF;rw [hE,if_neg (by simp),if_neg (by simpa using h)]);exact⟨e,by unfold opO;rw [e,if_pos rfl];simp⟩
theorem rCheck_any (p:Option Addr) (n cap:Nat) (c A B:Nat→Int) (pl:Bool) (w:World) (hIn:InC w p n c A B) (hn:n≤400) :
  Calls Tryz.prog 26 #[.slice p n cap,.bool pl] w fun e w'=>e=.returned (.int .i64 (chk c A B pl n))∧Below w.heap.size w w':=by
 refine calls_of Tryz.func26 rfl (m:=41) rfl [(0,.slice p n cap),(1,.bool pl)] (Fr_enter [.slice p n cap,.bool pl] 41 (Nat.le_of_ble_eq_true rfl)) ?_;have hH1:HP Tr w w []:=HP.refl w;refine WC.seq fun K2 hK2=>WC.region (WL.z (vI 0) 4 (WL.k hK2 (WC.seq fun K3 hK3=>WC.seq fun K4 hK4=>WC.region (WL.z (.slice p n cap) 8 (WL.z (vI (n:Int)) 9 ?_)))));by_cases hl:(120:Int)<(n:Int)
 ·
  refine WL.y (.bool true) 10 (x_gtr rfl rfl rfl (dT (hl))) (WL.k hK4 ?_);refine WC.yes rfl ?_;refine WC.seq fun K5 hK5=>WC.region (WL.z (vI 2) 4 (WL.k hK5 (WC.ret ?_)));refine WQ.thenRet ?_;refine WQ.ret1 4 rfl rfl ?_;exact⟨by rw [show chk c A B pl n=2 from chk_2 hl],HP.below hH1⟩
 ·
  refine WL.y (.bool false) 10 (x_gtr rfl rfl rfl (dF (hl))) (WL.k hK4 ?_);refine WC.no rfl ?_;refine WC.skip (WQ.then (hK3 _ _ _ (WC.seq fun K6 hK6=>WC.seq fun K7 hK7=>WC.region (WL.z (vI 0) 5 (WL.k hK7 (WC.block ?_))))));refine WC.loop (fun kk0 ll0 ww0=>∃ (k:Nat),ll0=[(0,.slice p n cap),(1,.bool pl),(5,vI (k:Int))]∧kk0=n-k∧(k≤n)∧(∀ i,i<k→vld (c i) (A i) (B i) pl=true)∧HP Tr w ww0 []) (n) [(0,.slice p n cap),(1,.bool pl),(5,vI 0)] ⟨rfl,rfl,rfl,trivial⟩ ⟨0,rfl,rfl,Nat.zero_le n,fun i hi=>absurd hi (Nat.not_lt_zero i),hH1⟩ ?_;rintro kk l w9 ⟨k,rfl,hkk,hk,hv,hH10⟩ K8 hK8;refine WC.seq fun K11 hK11=>WC.seq fun K12 hK12=>WC.region (WL.z (vI (k:Int)) 11 (WL.z (.slice p n cap) 12 (WL.z (vI (n:Int)) 13 ?_)));by_cases hlt:(k:Int)<(n:Int)
  ·
   refine WL.y (.bool true) 14 (x_lss rfl rfl rfl (dT (hlt))) (WL.k hK12 ?_);refine WC.yes rfl ?_;refine WC.skip (WQ.then (hK11 _ _ _ (WC.seq fun K13 hK13=>WC.block (WC.seq fun K14 hK14=>?_))));obtain⟨bb,oo,rfl,hrow⟩:=hIn (by omega);refine WC.region (WL.z (.slice (some ⟨bb,oo,none⟩) n cap) 17 (WL.z (vI (k:Int)) 18 (WL.y (vP bb (oo+k*3)) 19 (x_ix (k) (oo+k*3) Tryz.underlying24 sz51) (WL.y (.agg #[vI (c k),vI (A k),vI (B k)]) 20 (x_loadS (cs:=[vI (c k),vI (A k),vI (B k)]) rfl rfl Tryz.underlying51 rfl sz51 (HP.oldRange hH10 trivial (hrow k (by omega)))) (WL.z (.bool pl) 21 ?_)))));refine WL.c 44 #[.agg #[vI (c k),vI (A k),vI (B k)],.bool pl] 22 ?_;refine(rValid_any _ _ _ _ _).mono ?_;rintro e w15 ⟨rfl,hb16⟩;refine⟨_,rfl,?_⟩;have hH17:=HP.call hH10 hb16;refine WL.z (.bool (!(vld (c k) (A k) (B k) pl))) 23 (WL.k hK14 (WC.sb [(0,.slice (some ⟨bb,oo,none⟩) n cap),(1,.bool pl),(5,vI (k:Int)),(14,.bool true),(23,.bool (!(vld (c k) (A k) (B k) pl)))] ?_));rcases Bool.eq_false_or_eq_true (vld (c k) (A k) (B k) pl) with hA | hA
   ·
    refine WC.no (congrArg (fun b=>some (Value.bool (!b))) hA) ?_;refine WC.skip (WQ.inNormal (WQ.then (hK13 _ _ _ (WC.region (WL.z (vI (k:Int)) 15 (WL.y (vI ((k+1:Nat):Int)) 16 (x_ad (((k+1:Nat):Int))) (WL.z (vI ((k+1:Nat):Int)) 5 (WL.nil (WQ.sb [(0,.slice (some ⟨bb,oo,none⟩) n cap),(1,.bool pl),(5,vI ((k+1:Nat):Int))] ?_)))))))));refine WQ.then (hK8 _ _ _ (by omega) ⟨k+1,rfl,rfl,by omega,fun i hi=>(Nat.lt_succ_iff_lt_or_eq.1 hi).elim (hv i) (fun e=>e ▸ hA),hH17⟩)
   ·
    refine WC.yes (congrArg (fun b=>some (Value.bool (!b))) hA) ?_;refine WC.seq fun K18 hK18=>WC.region (WL.z (vI 1) 4 (WL.k hK18 (WC.ret ?_)));refine WQ.inRet ?_;refine WQ.thenRet ?_;refine WQ.thenRet ?_;refine WQ.inRet ?_;refine WQ.thenRet ?_;refine WQ.ret1 4 rfl rfl ?_;exact⟨by rw [show chk c A B pl n=1 from chk_1 hl (by omega) hA],HP.below hH17⟩
  ·
   refine WL.y (.bool false) 14 (x_lss rfl rfl rfl (dF (hlt))) (WL.k hK12 ?_);refine WC.no rfl ?_;refine WC.exit (WQ.thenExit (WQ.thenExit (WQ.inExit (WQ.then (hK6 _ _ _ (WC.seq fun K19 hK19=>WC.region (WL.z (.slice p n cap) 25 ?_)))))));refine WL.c 45 #[.slice p n cap,vI 0] 26 ?_;refine(parts_any p n cap c A B hn 0 (by omega) _ (hIn.below (HP.below hH10))).mono ?_;rintro e w20 ⟨nx,d,rfl,hPR,hb21⟩;refine⟨_,rfl,?_⟩;have hH22:=HP.call hH10 hb21;have hV:∀ i,i<n→vld (c i) (A i) (B i) pl=true:=fun i hi=>hv i (by omega);refine WL.z (.tuple #[vI (nx:Int),vI d]) 24 (WL.z (vI (nx:Int)) 27 (WL.z (vI d) 28 (WL.z (vI (nx:Int)) 6 (WL.z (vI d) 7 (WL.k hK19 (WC.sb [(0,.slice p n cap),(1,.bool pl),(5,vI (k:Int)),(6,vI (nx:Int)),(7,vI d),(14,.bool false)] (WC.seq fun K23 hK23=>WC.seq fun K24 hK24=>WC.region ?_)))))));refine WL.z (vI d) 29 ?_;by_cases hd:d<0
   ·
    refine WL.y (.bool true) 30 (x_lss rfl rfl rfl (dT (hd))) (WL.z (.bool true) 31 (WL.p 32 (WL.p 33 (WL.p 34 (WL.p 35 (WL.z (.bool true) 36 (WL.z (.bool true) 37 (WL.p 38 (WL.p 39 (WL.z (.bool true) 40 (WL.nil ?_)))))))))));refine WQ.then (hK24 _ _ _ (WC.sb [(0,.slice p n cap),(1,.bool pl),(5,vI (k:Int)),(6,vI (nx:Int)),(7,vI d),(14,.bool false),(40,.bool true)] ?_));refine WC.yes rfl ?_;refine WC.seq fun K25 hK25=>WC.region (WL.z (vI 7) 4 (WL.k hK25 (WC.ret ?_)));refine WQ.thenRet ?_;refine WQ.ret1 4 rfl rfl ?_;exact⟨by rw [show chk c A B pl n=7 from chk_7 hl hV (PR_fail1 hPR hd)],HP.below hH22⟩
   ·
    refine WL.y (.bool false) 30 (x_lss rfl rfl rfl (dF (hd))) (WL.z (.bool false) 31 (WL.z (vI (nx:Int)) 32 (WL.z (.slice p n cap) 33 (WL.z (vI (n:Int)) 34 ?_))));by_cases hnx:(nx:Int)<(n:Int)
    ·
     refine WL.y (.bool true) 35 (x_lss rfl rfl rfl (dT (hnx))) (WL.z (.bool true) 36 (WL.z (.bool true) 37 (WL.p 38 (WL.p 39 (WL.z (.bool true) 40 (WL.k hK24 (WC.sb [(0,.slice p n cap),(1,.bool pl),(5,vI (k:Int)),(6,vI (nx:Int)),(7,vI d),(14,.bool false),(40,.bool true)] ?_)))))));refine WC.yes rfl ?_;refine WC.seq fun K26 hK26=>WC.region (WL.z (vI 7) 4 (WL.k hK26 (WC.ret ?_)));refine WQ.thenRet ?_;refine WQ.ret1 4 rfl rfl ?_;exact⟨by rw [show chk c A B pl n=7 from chk_7 hl hV (PR_fail2 hPR hd hnx)],HP.below hH22⟩
    ·
     refine WL.y (.bool false) 35 (x_lss rfl rfl rfl (dF (hnx))) (WL.z (.bool false) 36 (WL.z (.bool false) 37 (WL.z (vI d) 38 ?_)));by_cases hm:(6:Int)<d
     ·
      refine WL.y (.bool true) 39 (x_gtr rfl rfl rfl (dT (hm))) (WL.z (.bool true) 40 (WL.k hK24 (WC.sb [(0,.slice p n cap),(1,.bool pl),(5,vI (k:Int)),(6,vI (nx:Int)),(7,vI d),(14,.bool false),(40,.bool true)] ?_)));refine WC.yes rfl ?_;refine WC.seq fun K27 hK27=>WC.region (WL.z (vI 7) 4 (WL.k hK27 (WC.ret ?_)));refine WQ.thenRet ?_;refine WQ.ret1 4 rfl rfl ?_;exact⟨by rw [show chk c A B pl n=7 from chk_7 hl hV (PR_deep hPR hd hnx hm)],HP.below hH22⟩
     ·
      refine WL.y (.bool false) 39 (x_gtr rfl rfl rfl (dF (hm))) (WL.z (.bool false) 40 (WL.k hK24 (WC.sb [(0,.slice p n cap),(1,.bool pl),(5,vI (k:Int)),(6,vI (nx:Int)),(7,vI d),(14,.bool false),(40,.bool false)] ?_)));refine WC.no rfl ?_;refine WC.skip (WQ.then (hK23 _ _ _ (WC.seq fun K28 hK28=>WC.region (WL.z (vI 0) 4 (WL.k hK28 (WC.ret ?_))))));refine WQ.ret1 4 rfl rfl ?_;exact⟨by rw [show chk c A B pl n=0 from chk_0 hl hV (PR_good hPR hd hnx hm)],HP.below hH22⟩
theorem rMatch_any (p:Option Addr) (n cap:Nat) (c A B:Nat→Int) (at':Int) (w:World) (hIn:InC w p n c A B) (hn:n≤400) (h1:-9223372036854775808≤at') (h2:at'≤9223372036854775807) :
  Calls Tryz.prog 29 #[.slice p n cap,vI at'] w fun e w'=>e=.returned (mtc c A B n at')∧Below w.heap.size w w':=by
 refine calls_of Tryz.func29 rfl (m:=40) rfl [(0,.slice p n cap),(1,vI at')] (Fr_enter [.slice p n cap,vI at'] 40 (Nat.le_of_ble_eq_true rfl)) ?_;have hH1:HP Tr w w []:=HP.refl w;refine WC.seq fun K2 hK2=>WC.region (WL.z (vI 0) 4 (WL.z (vI 0) 5 (WL.z (vI 0) 6 (WL.k hK2 (WC.seq fun K3 hK3=>WC.region (WL.z (.slice p n cap) 11 ?_))))));refine WL.c 26 #[.slice p n cap,.bool false] 12 ?_;refine(rCheck_any _ _ _ c A B false _ (hIn.below (HP.below hH1)) hn).mono ?_;rintro e w4 ⟨rfl,hb5⟩;refine⟨_,rfl,?_⟩;have hH6:=HP.call hH1 hb5;refine WL.z (vI (chk c A B false n)) 7 (WL.k hK3 (WC.seq fun K7 hK7=>WC.seq fun K8 hK8=>WC.region (WL.z (vI (chk c A B false n)) 13 ?_)));by_cases hc:chk c A B false n≠0
 ·
  refine WL.y (.bool true) 14 (x_neq rfl rfl rfl (dT (hc))) (WL.k hK8 ?_);refine WC.yes rfl ?_;refine WC.seq fun K9 hK9=>WC.region (WL.z (vI (chk c A B false n)) 15 (WL.z (vI 0) 4 (WL.z (vI 0) 5 (WL.z (vI (chk c A B false n)) 6 (WL.k hK9 (WC.sb [(0,.slice p n cap),(1,vI at'),(4,vI 0),(5,vI 0),(6,vI (chk c A B false n)),(7,vI (chk c A B false n)),(14,.bool true)] (WC.ret ?_)))))));refine WQ.thenRet ?_;refine WQ.ret3 4 5 6 rfl rfl rfl rfl ?_;exact⟨by rw [mtc_bad hc (idE_bad hc)],HP.below hH6⟩
 ·
  refine WL.y (.bool false) 14 (x_neq rfl rfl rfl (dF (hc))) (WL.k hK8 ?_);refine WC.no rfl ?_;refine WC.skip (WQ.then (hK7 _ _ _ (WC.seq fun K10 hK10=>WC.seq fun K11 hK11=>WC.region (WL.z (vI at') 16 ?_))));by_cases hlo:at'<0
  ·
   refine WL.y (.bool true) 17 (x_lss rfl rfl rfl (dT (hlo))) (WL.z (.bool true) 18 (WL.p 19 (WL.p 20 (WL.p 21 (WL.p 22 (WL.z (.bool true) 23 (WL.k hK11 (WC.sb [(0,.slice p n cap),(1,vI at'),(4,vI 0),(5,vI 0),(6,vI 0),(7,vI (chk c A B false n)),(14,.bool false),(23,.bool true)] ?_))))))));refine WC.yes rfl ?_;refine WC.seq fun K12 hK12=>WC.region (WL.z (vI 0) 4 (WL.z (vI 0) 5 (WL.z (vI 1) 6 (WL.k hK12 (WC.ret ?_)))));refine WQ.thenRet ?_;refine WQ.ret3 4 5 6 rfl rfl rfl rfl ?_;exact⟨by rw [mtc_bad (er:=1) (by decide) (idE_out (by omega) (by omega))],HP.below hH6⟩
  ·
   refine WL.y (.bool false) 17 (x_lss rfl rfl rfl (dF (hlo))) (WL.z (.bool false) 18 (WL.z (vI at') 19 (WL.z (.slice p n cap) 20 (WL.z (vI (n:Int)) 21 ?_))));by_cases hhi:(n:Int)≤at'
   ·
    refine WL.y (.bool true) 22 (x_geq rfl rfl rfl (dT (hhi))) (WL.z (.bool true) 23 (WL.k hK11 (WC.sb [(0,.slice p n cap),(1,vI at'),(4,vI 0),(5,vI 0),(6,vI 0),(7,vI (chk c A B false n)),(14,.bool false),(23,.bool true)] ?_)));refine WC.yes rfl ?_;refine WC.seq fun K13 hK13=>WC.region (WL.z (vI 0) 4 (WL.z (vI 0) 5 (WL.z (vI 1) 6 (WL.k hK13 (WC.ret ?_)))));refine WQ.thenRet ?_;refine WQ.ret3 4 5 6 rfl rfl rfl rfl ?_;exact⟨by rw [mtc_bad (er:=1) (by decide) (idE_out (by omega) (by omega))],HP.below hH6⟩
   ·
    refine WL.y (.bool false) 22 (x_geq rfl rfl rfl (dF (hhi))) (WL.z (.bool false) 23 (WL.k hK11 (WC.sb [(0,.slice p n cap),(1,vI at'),(4,vI 0),(5,vI 0),(6,vI 0),(7,vI (chk c A B false n)),(14,.bool false),(23,.bool false)] ?_)));refine WC.no rfl ?_;refine WC.skip (WQ.then (hK10 _ _ _ (WC.seq fun K14 hK14=>WC.seq fun K15 hK15=>?_)));obtain⟨k,rfl⟩:∃ k:Nat,at'=(k:Int):=⟨at'.toNat,by omega⟩;obtain⟨bb,oo,rfl,hrow⟩:=hIn (by omega);have hE:idE c A B n (k:Int)=0:=idE_in (by omega) (by omega);have hB:=chk_bal (show chk c A B false n=0 by omega);refine WC.region (WL.z (.slice (some ⟨bb,oo,none⟩) n cap) 24 (WL.z (vI (k:Int)) 25 (WL.y (vP bb (oo+k*3)) 26 (x_ix (k) (oo+k*3) Tryz.underlying24 sz51) (WL.z (vP bb (oo+k*3)) 27 (WL.y (vI (c k)) 28 (x_load rfl rfl Tryz.underlying3 rfl ((HP.oldRange hH6 trivial (hrow k (by omega))) 0 _ rfl)) ?_)))));refine WL.c 48 #[vI (c k)] 29 ?_;refine(rOpens_any _ _).mono ?_;rintro e w16 ⟨rfl,rfl⟩;refine⟨_,rfl,?_⟩;refine WL.z (.bool (!(opn (c k)))) 30 (WL.k hK15 (WC.sb [(0,.slice (some ⟨bb,oo,none⟩) n cap),(1,vI (k:Int)),(4,vI 0),(5,vI 0),(6,vI 0),(7,vI (chk c A B false n)),(14,.bool false),(23,.bool false),(30,.bool (!(opn (c k))))] ?_));rcases Bool.eq_false_or_eq_true (opn (c k)) with hO | hO
    ·
     refine WC.no (congrArg (fun b=>some (Value.bool (!b))) hO) ?_;refine WC.skip (WQ.then (hK14 _ _ _ (WC.seq fun K17 hK17=>WC.region (WL.z (.slice (some ⟨bb,oo,none⟩) n cap) 32 (WL.z (vI (k:Int)) 33 ?_)))));refine WL.c 49 #[.slice (some ⟨bb,oo,none⟩) n cap,vI (k:Int)] 34 ?_;refine(bracket_any (some ⟨bb,oo,none⟩) n cap c A B hn k (by omega) hO _ (hIn.below (HP.below hH6))).mono ?_;rintro e w18 ⟨a1,e1,x1,rfl,hBR,hb19⟩;refine⟨_,rfl,?_⟩;have hH20:=HP.call hH6 hb19;obtain⟨ha1,he1,hen⟩:=bra_final hB (show k<n by omega) hBR;refine WL.z (.tuple #[vI a1,vI (e1:Int),vI x1]) 31 (WL.z (vI a1) 35 (WL.z (vI (e1:Int)) 36 (WL.z (vI x1) 37 (WL.z (vI a1) 8 (WL.z (vI (e1:Int)) 9 (WL.z (vI x1) 10 (WL.k hK17 (WC.sb [(0,.slice (some ⟨bb,oo,none⟩) n cap),(1,vI (k:Int)),(4,vI 0),(5,vI 0),(6,vI 0),(7,vI (chk c A B false n)),(8,vI a1),(9,vI (e1:Int)),(14,.bool false),(23,.bool false),(30,.bool (!(opn (c k))))] (WC.seq fun K21 hK21=>?_)))))))));refine WC.region (WL.z (vI a1) 38 (WL.z (vI (e1:Int)) 39 (WL.z (vI a1) 4 (WL.z (vI (e1:Int)) 5 (WL.z (vI 0) 6 (WL.k hK21 (WC.ret ?_)))))));refine WQ.ret3 4 5 6 rfl rfl rfl rfl ?_;exact⟨by rw [mtc_ok hE hO hB.hs,ha1,he1],HP.below hH20⟩
    ·
     refine WC.yes (congrArg (fun b=>some (Value.bool (!b))) hO) ?_;refine WC.seq fun K22 hK22=>WC.region (WL.z (vI 0) 4 (WL.z (vI 0) 5 (WL.z (vI 3) 6 (WL.k hK22 (WC.ret ?_)))));refine WQ.thenRet ?_;refine WQ.ret3 4 5 6 rfl rfl rfl rfl ?_;exact⟨by rw [mtc_none hE hO],HP.below hH6⟩
theorem around_any (p:Option Addr) (n cap:Nat) (c A B:Nat→Int) (k:Nat) (w:World) (hIn:InC w p n c A B) (hn:n≤400) (hk:k<n) (hB:Bal c n (shD c n)) :
  Calls Tryz.prog 78 #[.slice p n cap,vI (k:Int)] w fun e w'=>e=.returned (.int .i64 ((shD c n).o k))∧Below w.heap.size w w':=by
 refine calls_of Tryz.func78 rfl (m:=32) rfl [(0,.slice p n cap),(1,vI (k:Int))] (Fr_enter [.slice p n cap,vI (k:Int)] 32 (Nat.le_of_ble_eq_true rfl)) ?_;have hH1:HP Tr w w []:=HP.refl w;refine WC.seq fun K2 hK2=>WC.region (WL.z (vI 0) 4 (WL.k hK2 (WC.seq fun K3 hK3=>WC.seq fun K4 hK4=>WC.region (WL.z (vI (k:Int)) 9 (WL.y (vI ((k:Int)-1)) 10 (x_sub (Z:=(k:Int)-1) rfl rfl rfl (by omega) (by omega) (by omega)) (WL.z (vI ((k:Int)-1)) 5 ?_))))));refine WL.k hK4 (WC.block ?_);refine WC.loop (fun kk0 ll0 ww0=>∃ (i:Int),ll0=[(0,.slice p n cap),(1,vI (k:Int)),(5,vI i)]∧kk0=(i+1).toNat∧(-1≤i)∧(i<k)∧(∀ x:Nat,i<x→x<k→opn (c x)=true→(shD c n).d x<k)∧HP Tr w ww0 []) (((k:Int)-1+1).toNat) [(0,.slice p n cap),(1,vI (k:Int)),(5,vI ((k:Int)-1))] ⟨rfl,rfl,rfl,trivial⟩ ⟨(k:Int)-1,rfl,rfl,by omega,by omega,fun x h1 h2=>by omega,hH1⟩ ?_;rintro kk l w6 ⟨i,rfl,hkk,hi1,hi2,hv,hH7⟩ K5 hK5;refine WC.seq fun K8 hK8=>WC.seq fun K9 hK9=>WC.region (WL.z (vI i) 11 ?_);by_cases hge:(0:Int)≤i
 ·
  refine WL.y (.bool true) 12 (x_geq rfl rfl rfl (dT (hge))) (WL.k hK9 ?_);refine WC.yes rfl ?_;refine WC.skip (WQ.then (hK8 _ _ _ (WC.seq fun K10 hK10=>WC.block (WC.seq fun K11 hK11=>?_))));obtain⟨j,rfl⟩:∃ j:Nat,i=(j:Int):=⟨i.toNat,by omega⟩;obtain⟨bb,oo,rfl,hrow⟩:=hIn (by omega);refine WC.region (WL.z (.slice (some ⟨bb,oo,none⟩) n cap) 15 (WL.z (vI (j:Int)) 16 (WL.y (vP bb (oo+j*3)) 17 (x_ix (j) (oo+j*3) Tryz.underlying24 sz51) (WL.z (vP bb (oo+j*3)) 18 (WL.y (vI (c j)) 19 (x_load rfl rfl Tryz.underlying3 rfl ((HP.oldRange hH7 trivial (hrow j (by omega))) 0 _ rfl)) ?_)))));refine WL.c 48 #[vI (c j)] 20 ?_;refine(rOpens_any _ _).mono ?_;rintro e w12 ⟨rfl,rfl⟩;refine⟨_,rfl,?_⟩;refine WL.k hK11 (WC.sb [(0,.slice (some ⟨bb,oo,none⟩) n cap),(1,vI (k:Int)),(5,vI (j:Int)),(12,.bool true),(20,.bool (opn (c j)))] ?_);rcases Bool.eq_false_or_eq_true (opn (c j)) with hO | hO
  ·
   refine WC.yes (congrArg (fun b=>some (Value.bool b)) hO) ?_;refine WC.seq fun K13 hK13=>WC.region (WL.z (.slice (some ⟨bb,oo,none⟩) n cap) 22 (WL.z (vI (j:Int)) 23 ?_));refine WL.c 49 #[.slice (some ⟨bb,oo,none⟩) n cap,vI (j:Int)] 24 ?_;refine(bracket_any (some ⟨bb,oo,none⟩) n cap c A B hn j (by omega) hO _ (hIn.below (HP.below hH7))).mono ?_;rintro e w14 ⟨a1,e1,x1,rfl,hBR,hb15⟩;refine⟨_,rfl,?_⟩;have hH16:=HP.call hH7 hb15;obtain⟨ha1,he1,hen⟩:=bra_final hB (show j<n by omega) hBR;refine WL.z (.tuple #[vI a1,vI (e1:Int),vI x1]) 21 (WL.z (vI a1) 25 (WL.z (vI (e1:Int)) 26 (WL.z (vI x1) 27 (WL.z (vI a1) 6 (WL.z (vI (e1:Int)) 7 (WL.z (vI x1) 8 (WL.k hK13 (WC.sb [(0,.slice (some ⟨bb,oo,none⟩) n cap),(1,vI (k:Int)),(5,vI (j:Int)),(7,vI (e1:Int)),(12,.bool true),(20,.bool (opn (c j)))] (WC.seq fun K17 hK17=>?_)))))))));refine WC.region (WL.z (vI (e1:Int)) 28 (WL.z (vI (k:Int)) 29 ?_));by_cases hge2:(k:Int)≤(e1:Int)
   ·
    refine WL.y (.bool true) 30 (x_geq rfl rfl rfl (dT (hge2))) (WL.k hK17 ?_);refine WC.yes rfl ?_;refine WC.seq fun K18 hK18=>WC.region (WL.z (vI (j:Int)) 31 (WL.z (vI (j:Int)) 4 (WL.k hK18 (WC.ret ?_))));refine WQ.inRet ?_;refine WQ.thenRet ?_;refine WQ.thenRet ?_;refine WQ.inRet ?_;refine WQ.thenRet ?_;refine WQ.ret1 4 rfl rfl ?_;exact⟨by rw [opener_some hB hk (show j<k by omega) hO (by omega) (fun x h1 h2 h3=>hv x (by omega) h2 h3)],HP.below hH16⟩
   ·
    refine WL.y (.bool false) 30 (x_geq rfl rfl rfl (dF (hge2))) (WL.k hK17 ?_);refine WC.no rfl ?_;refine WC.skip (WQ.inNormal (WQ.then (hK10 _ _ _ (WC.region (WL.z (vI (j:Int)) 13 (WL.y (vI ((j:Int)-1)) 14 (x_sub (Z:=(j:Int)-1) rfl rfl rfl (by omega) (by omega) (by omega)) (WL.z (vI ((j:Int)-1)) 5 (WL.nil (WQ.sb [(0,.slice (some ⟨bb,oo,none⟩) n cap),(1,vI (k:Int)),(5,vI ((j:Int)-1))] ?_)))))))));refine WQ.then (hK5 _ _ _ (by omega) ⟨(j:Int)-1,rfl,rfl,by omega,by omega,fun x h1 h2 h3=>(Decidable.em (x=j)).elim (fun e=>by rw [e];omega) (fun e=>hv x (by omega) h2 h3),hH16⟩)
  ·
   refine WC.no (congrArg (fun b=>some (Value.bool b)) hO) ?_;refine WC.skip (WQ.inNormal (WQ.then (hK10 _ _ _ (WC.region (WL.z (vI (j:Int)) 13 (WL.y (vI ((j:Int)-1)) 14 (x_sub (Z:=(j:Int)-1) rfl rfl rfl (by omega) (by omega) (by omega)) (WL.z (vI ((j:Int)-1)) 5 (WL.nil (WQ.sb [(0,.slice (some ⟨bb,oo,none⟩) n cap),(1,vI (k:Int)),(5,vI ((j:Int)-1))] ?_)))))))));refine WQ.then (hK5 _ _ _ (by omega) ⟨(j:Int)-1,rfl,rfl,by omega,by omega,fun x h1 h2 h3=>(Decidable.em (x=j)).elim (fun e=>absurd (e ▸ h3) (by rw [hO];exact Bool.false_ne_true)) (fun e=>hv x (by omega) h2 h3),hH7⟩)
 ·
  refine WL.y (.bool false) 12 (x_geq rfl rfl rfl (dF (hge))) (WL.k hK9 ?_);refine WC.no rfl ?_;refine WC.exit (WQ.thenExit (WQ.thenExit (WQ.inExit (WQ.then (hK3 _ _ _ (WC.seq fun K19 hK19=>WC.region (WL.z (vI (-1)) 4 (WL.k hK19 ?_))))))));refine WC.ret ?_;refine WQ.ret1 4 rfl rfl ?_;exact⟨by rw [opener_none hB hk (fun x h1 h2=>hv x (by omega) h1 h2)],HP.below hH7⟩
theorem rOpener_any (p:Option Addr) (n cap:Nat) (c A B:Nat→Int) (at':Int) (w:World) (hIn:InC w p n c A B) (hn:n≤400) (h1:-9223372036854775808≤at') (h2:at'≤9223372036854775807) :
  Calls Tryz.prog 50 #[.slice p n cap,vI at'] w fun e w'=>e=.returned (.tuple #[.int .i64 (opO c A B n at'),.int .i64 (opF c A B n at')])∧Below w.heap.size w w':=by
 refine calls_of Tryz.func50 rfl (m:=31) rfl [(0,.slice p n cap),(1,vI at')] (Fr_enter [.slice p n cap,vI at'] 31 (Nat.le_of_ble_eq_true rfl)) ?_;have hH1:HP Tr w w []:=HP.refl w;refine WC.seq fun K2 hK2=>WC.region (WL.z (vI 0) 4 (WL.z (vI 0) 5 (WL.k hK2 (WC.seq fun K3 hK3=>WC.region (WL.z (.slice p n cap) 8 ?_)))));refine WL.c 26 #[.slice p n cap,.bool false] 9 ?_;refine(rCheck_any _ _ _ c A B false _ (hIn.below (HP.below hH1)) hn).mono ?_;rintro e w4 ⟨rfl,hb5⟩;refine⟨_,rfl,?_⟩;have hH6:=HP.call hH1 hb5;refine WL.z (vI (chk c A B false n)) 6 (WL.k hK3 (WC.seq fun K7 hK7=>WC.seq fun K8 hK8=>WC.region (WL.z (vI (chk c A B false n)) 10 ?_)));by_cases hc0:chk c A B false n=0
 ·
  refine WL.y (.bool true) 11 (x_eql rfl rfl rfl (dT (hc0))) (WL.z (.bool true) 12 (WL.z (vI at') 13 ?_));by_cases hlo:at'<0
  ·
   refine WL.y (.bool true) 14 (x_lss rfl rfl rfl (dT (hlo))) (WL.z (.bool true) 15 (WL.p 16 (WL.p 17 (WL.p 18 (WL.p 19 (WL.z (.bool true) 20 (WL.z (.bool true) 21 (WL.k hK8 (WC.sb [(0,.slice p n cap),(1,vI at'),(4,vI 0),(5,vI 0),(6,vI (chk c A B false n)),(21,.bool true)] ?_)))))))));refine WC.yes rfl ?_;refine WC.region (WL.z (vI 1) 6 (WL.k hK7 (WC.seq fun K9 hK9=>WC.seq fun K10 hK10=>WC.region (WL.z (vI 1) 22 (WL.y (.bool true) 23 (x_neq rfl rfl rfl (by decide)) (WL.nil (WQ.then ?_)))))));refine hK10 _ _ _ (WC.yes rfl ?_);refine WC.seq fun K11 hK11=>WC.region (WL.z (vI 1) 24 (WL.z (vI 0) 4 (WL.z (vI 1) 5 (WL.k hK11 (WC.ret ?_)))));refine WQ.thenRet ?_;refine WQ.ret2 4 5 rfl rfl rfl ?_;have q:opF c A B n at'=1∧opO c A B n at'=0:=op_bad (er:=1) (by decide) (idE_out (by omega) (by omega));exact⟨by rw [q.1,q.2],HP.below hH6⟩
  ·
   refine WL.y (.bool false) 14 (x_lss rfl rfl rfl (dF (hlo))) (WL.z (.bool false) 15 (WL.z (vI at') 16 (WL.z (.slice p n cap) 17 (WL.z (vI (n:Int)) 18 ?_))));by_cases hhi:(n:Int)≤at'
   ·
    refine WL.y (.bool true) 19 (x_geq rfl rfl rfl (dT (hhi))) (WL.z (.bool true) 20 (WL.z (.bool true) 21 (WL.k hK8 (WC.sb [(0,.slice p n cap),(1,vI at'),(4,vI 0),(5,vI 0),(6,vI (chk c A B false n)),(21,.bool true)] ?_))));refine WC.yes rfl ?_;refine WC.region (WL.z (vI 1) 6 (WL.k hK7 (WC.seq fun K12 hK12=>WC.seq fun K13 hK13=>WC.region (WL.z (vI 1) 22 (WL.y (.bool true) 23 (x_neq rfl rfl rfl (by decide)) (WL.nil (WQ.then ?_)))))));refine hK13 _ _ _ (WC.yes rfl ?_);refine WC.seq fun K14 hK14=>WC.region (WL.z (vI 1) 24 (WL.z (vI 0) 4 (WL.z (vI 1) 5 (WL.k hK14 (WC.ret ?_)))));refine WQ.thenRet ?_;refine WQ.ret2 4 5 rfl rfl rfl ?_;have q:opF c A B n at'=1∧opO c A B n at'=0:=op_bad (er:=1) (by decide) (idE_out (by omega) (by omega));exact⟨by rw [q.1,q.2],HP.below hH6⟩
   ·
    refine WL.y (.bool false) 19 (x_geq rfl rfl rfl (dF (hhi))) (WL.z (.bool false) 20 (WL.z (.bool false) 21 (WL.k hK8 (WC.sb [(0,.slice p n cap),(1,vI at'),(4,vI 0),(5,vI 0),(6,vI (chk c A B false n)),(21,.bool false)] ?_))));refine WC.no rfl ?_;refine WC.skip (WQ.then (hK7 _ _ _ (WC.seq fun K15 hK15=>WC.seq fun K16 hK16=>WC.region (WL.z (vI (chk c A B false n)) 22 (WL.y (.bool false) 23 (x_neq rfl rfl rfl (dF (fun h=>h hc0))) (WL.k hK16 ?_))))));refine WC.no rfl ?_;refine WC.skip (WQ.then (hK15 _ _ _ (WC.seq fun K17 hK17=>?_)));obtain⟨k,rfl⟩:∃ k:Nat,at'=(k:Int):=⟨at'.toNat,by omega⟩;obtain⟨bb,oo,rfl,hrow⟩:=hIn (by omega);have hE:idE c A B n (k:Int)=0:=idE_in (by omega) (by omega);have hB:=chk_bal (show chk c A B false n=0 by omega);refine WC.region (WL.z (.slice (some ⟨bb,oo,none⟩) n cap) 25 (WL.z (vI (k:Int)) 26 ?_));refine WL.c 78 #[.slice (some ⟨bb,oo,none⟩) n cap,vI (k:Int)] 27 ?_;refine(around_any _ _ _ c A B k _ (hIn.below (HP.below hH6)) hn (by omega) hB).mono ?_;rintro e w18 ⟨rfl,hb19⟩;refine⟨_,rfl,?_⟩;have hH20:=HP.call hH6 hb19;refine WL.z (vI ((shD c n).o k)) 7 (WL.k hK17 (WC.seq fun K21 hK21=>WC.seq fun K22 hK22=>WC.region (WL.z (vI ((shD c n).o k)) 28 ?_)));by_cases hneg:(shD c n).o k<0
    ·
     refine WL.y (.bool true) 29 (x_lss rfl rfl rfl (dT (hneg))) (WL.k hK22 ?_);refine WC.yes rfl ?_;refine WC.seq fun K23 hK23=>WC.region (WL.z (vI 0) 4 (WL.z (vI 3) 5 (WL.k hK23 (WC.sb [(0,.slice (some ⟨bb,oo,none⟩) n cap),(1,vI (k:Int)),(4,vI 0),(5,vI 3),(6,vI (chk c A B false n)),(7,vI ((shD c n).o k)),(21,.bool false),(23,.bool false),(29,.bool true)] (WC.ret ?_)))));refine WQ.thenRet ?_;refine WQ.ret2 4 5 rfl rfl rfl ?_;have q:opF c A B n (k:Int)=3∧opO c A B n (k:Int)=0:=op_none hE hneg;exact⟨by rw [q.1,q.2],HP.below hH20⟩
    ·
     refine WL.y (.bool false) 29 (x_lss rfl rfl rfl (dF (hneg))) (WL.k hK22 ?_);refine WC.no rfl ?_;refine WC.skip (WQ.then (hK21 _ _ _ (WC.seq fun K24 hK24=>WC.region (WL.z (vI ((shD c n).o k)) 30 (WL.z (vI ((shD c n).o k)) 4 (WL.z (vI 0) 5 (WL.k hK24 (WC.sb [(0,.slice (some ⟨bb,oo,none⟩) n cap),(1,vI (k:Int)),(4,vI ((shD c n).o k)),(5,vI 0),(6,vI (chk c A B false n)),(7,vI ((shD c n).o k)),(21,.bool false),(23,.bool false),(29,.bool false)] ?_))))))));refine WC.ret ?_;refine WQ.ret2 4 5 rfl rfl rfl ?_;have q:opF c A B n (k:Int)=0∧opO c A B n (k:Int)=(shD c n).o k:=op_ok hE hneg;exact⟨by rw [q.1,q.2],HP.below hH20⟩
 ·
  have hc:=hc0;refine WL.y (.bool false) 11 (x_eql rfl rfl rfl (dF (hc0))) (WL.z (.bool false) 12 (WL.p 13 (WL.p 14 (WL.p 15 (WL.p 16 (WL.p 17 (WL.p 18 (WL.p 19 (WL.p 20 (WL.z (.bool false) 21 (WL.nil ?_)))))))))));refine WQ.then (hK8 _ _ _ (WC.sb [(0,.slice p n cap),(1,vI at'),(4,vI 0),(5,vI 0),(6,vI (chk c A B false n)),(21,.bool false)] ?_));refine WC.no rfl ?_;refine WC.skip (WQ.then (hK7 _ _ _ (WC.seq fun K25 hK25=>WC.seq fun K26 hK26=>WC.region (WL.z (vI (chk c A B false n)) 22 (WL.y (.bool true) 23 (x_neq rfl rfl rfl (dT (hc0))) (WL.k hK26 ?_))))));refine WC.yes rfl ?_;refine WC.seq fun K27 hK27=>WC.region (WL.z (vI (chk c A B false n)) 24 (WL.z (vI 0) 4 (WL.z (vI (chk c A B false n)) 5 (WL.k hK27 (WC.ret ?_)))));refine WQ.thenRet ?_;refine WQ.ret2 4 5 rfl rfl rfl ?_;have q:opF c A B n at'=chk c A B false n∧opO c A B n at'=0:=op_bad hc (idE_bad hc);exact⟨by rw [q.1,q.2],HP.below hH6⟩
end Ec
end Go.Proofs.YtmjnakhpekbenaaGreat
namespace Go.Proofs.YtmjnakhpekbenaaGreat
open Go.RowKit Go.ChangeShapes Go.WideShapes Fw
namespace Ec
theorem cells3:Tryz.prog.cellsOf 51=3:=by kernel_rfl
theorem cells1i:Tryz.prog.cellsOf 3=1:=by kernel_rfl
set_option maxRecDepth 100000 in
theorem elem3 {H:Type} {enc:TypeId × Value→H} {W:World} {base:Nat} {sp:Nat→Bool} {hd:Bool} {n:Nat} {cs:List Value} {y:DataW H × List MemPlace} (h:DataW.trod enc Tryz.prog W base sp hd n 51 cs=some y) :
    ∃ o:In,cs=[.int .i64 o.op,.int .i64 o.a,.int .i64 o.b]:=by
  obtain⟨xs,k,hk,hx,hl,hxl,hf⟩:=DataW.trod_struct Tryz.underlying51 h;rw [cells3] at hl;simp at hxl
  match xs,hxl,cs,hl with
  | [y0,y1,y2],_,[v0,v1,v2],_ =>
    have g0:=hf 0 _ rfl;have g1:=hf 1 _ rfl;have g2:=hf 2 _ rfl;simp [cells1i] at g0 g1 g2;obtain⟨z0,h0,-⟩:=DataW.trod_int Tryz.underlying3 g0;obtain⟨z1,h1,-⟩:=DataW.trod_int Tryz.underlying3 g1;obtain⟨z2,h2,-⟩:=DataW.trod_int Tryz.underlying3 g2;simp only [List.cons.injEq,and_true] at h0 h1 h2;exact⟨⟨z0,z1,z2⟩,by rw [h0,h1,h2]⟩
structure RowIn (W:World) (p:Option Addr) (n cap:Nat) (c A B:Nat→Int):Prop where
  inC:InC W p n c A B
  nil:p=none→n=0∧cap=0
  hn:n≤cap
  hc:cap≤maxLen
theorem choose3 {m:Nat} {Q:Nat→In→Prop} (h:∀ i,i<m→∃ o,Q i o):∃ f:Nat→In,∀ i,i<m→Q i (f i):=by
  refine⟨fun i=>if hi:i<m then (h i hi).choose else ⟨0,0,0⟩,fun i hi=>?_⟩;simp only [hi,dif_pos];exact(h i hi).choose_spec
theorem rows3 {H:Type} {enc:TypeId × Value→H} {W:World} {p:Option Addr} {n cap:Nat} {d:DataW H} {pl:List MemPlace}
    (h:DataW.Trod enc Tryz.prog W 0 (fun _=>true) true 24 (.slice p n cap) d pl) (lt:∀ x∈pl,x.block<W.heap.size):∃ c A B,RowIn W p n cap c A B:=by
  obtain⟨fuel,hf⟩:=h;rcases Go.Deep.open_slice Tryz.underlying24 hf with ⟨hc,-⟩ | ⟨a,len,cap',m,k,D,Pl,hc,-,hl,hm,hmm,hx,hall⟩
  · simp [Value.cells] at hc
    obtain⟨rfl,rfl,rfl⟩:=hc;exact⟨fun _=>0,fun _=>0,fun _=>0,fun h=>absurd h (by omega),fun _=>⟨rfl,rfl⟩,Nat.le_refl _,by omega⟩
  · simp [Value.cells] at hc
    obtain⟨rfl,rfl,rfl⟩:=hc;simp only [if_true] at hmm;have add0:∀ a:Addr,a.add 0=a:=fun a=>by unfold Addr.add;rw [if_pos rfl]
    have each:∀ i,i<m→∃ o:In,W.cell? (a.add (i*3))=some (.int .i64 o.op)∧W.cell? ((a.add (i*3)).add 1)=some (.int .i64 o.a)∧W.cell? ((a.add (i*3)).add 2)=some (.int .i64 o.b):=by
      intro i hi;obtain⟨cs',h1,h2⟩:=hall i hi;rw [cells3] at h1;obtain⟨o,rfl⟩:=elem3 h2;obtain⟨_,hlen,hcell⟩:=World.cells?_some h1;have e0:=hcell 0 (by omega);rw [add0] at e0;exact⟨o,by simpa using e0,by simpa using hcell 1 (by omega),by simpa using hcell 2 (by omega)⟩
    obtain⟨f,hf⟩:=choose3 each;refine⟨fun i=>(f i).op,fun i=>(f i).a,fun i=>(f i).b,fun h0=>?_,fun q=>(by cases q),hl,hm⟩;obtain⟨g0,g1,g2⟩:=hf 0 (by omega);rw [Nat.zero_mul,add0] at g0;have hsp:a.spot=none:=by
      unfold World.cell? at g0;cases hsp:a.spot with
      | none=>rfl
      | some q=>rw [hsp] at g0;simp at g0;split at g0 <;> simp at g0
    obtain⟨bb,oo,sp⟩:=a;simp only at hsp;subst hsp;have hadd:∀ k,(⟨bb,oo,none⟩:Addr).add k=⟨bb,oo+k,none⟩:=fun k=>by unfold Addr.add;split <;> simp_all
    have hadd2:∀ o k,(⟨bb,o,none⟩:Addr).add k=⟨bb,o+k,none⟩:=fun o k=>by unfold Addr.add;split <;> simp_all
    refine⟨bb,oo,rfl,fun i hi j v hv=>?_⟩;obtain⟨e0,e1,e2⟩:=hf i (by omega);simp only [hadd,hadd2] at e0 e1 e2
    match j,hv with
    | 0,hv=>simp at hv;subst hv;exact e0
    | 1,hv=>simp at hv;subst hv;exact e1
    | 2,hv=>simp at hv;subst hv;exact e2
    | j+3,hv=>simp at hv
def maF (c A B:Nat→Int) (n:Nat) (at':Int):Int:=if idE c A B n at'≠0 then idE c A B n at' else if opn (c at'.toNat)=false then 3 else 0
def maA (c A B:Nat→Int) (n:Nat) (at':Int):Int:=if maF c A B n at'=0 then (shD c n).e at'.toNat else 0
def maE (c A B:Nat→Int) (n:Nat) (at':Int):Int:=if maF c A B n at'=0 then (shD c n).d at'.toNat else 0
theorem mtc_eq (c A B:Nat→Int) (n:Nat) (at':Int):mtc c A B n at'=.tuple #[vI (maA c A B n at'),vI (maE c A B n at'),vI (maF c A B n at')]:=by
  unfold mtc maA maE maF;by_cases h1:idE c A B n at'≠0
  · simp [h1]
  · by_cases h2 : opn (c at'.toNat) = false
    · simp at h1;simp [h1,h2]
    · simp at h1 h2;simp [h1,h2]
abbrev MaV (c A B:Nat→Int) (n:Nat) (at':Int):Value:=.tuple #[vI (maA c A B n at'),vI (maE c A B n at'),vI (maF c A B n at')]
theorem Match2_any (p:Option Addr) (n cap:Nat) (c A B:Nat→Int) (at':Int) (w:World) (hIn:InC w p n c A B) (hn:n≤400) (h1:-9223372036854775808≤at') (h2:at'≤9223372036854775807) :
    Calls Tryz.prog 47 #[.slice p n cap,vI at'] w fun e w'=>e=.returned (MaV c A B n at')∧Below w.heap.size w w':=by
  have q:=Match_any p n cap c A B at' w hIn hn h1 h2;rw [mtc_eq] at q;exact q
theorem rMatch2_any (p:Option Addr) (n cap:Nat) (c A B:Nat→Int) (at':Int) (w:World) (hIn:InC w p n c A B) (hn:n≤400) (h1:-9223372036854775808≤at') (h2:at'≤9223372036854775807) :
    Calls Tryz.prog 29 #[.slice p n cap,vI at'] w fun e w'=>e=.returned (MaV c A B n at')∧Below w.heap.size w w':=by
  have q:=rMatch_any p n cap c A B at' w hIn hn h1 h2;rw [mtc_eq] at q;exact q
end Ec
end Go.Proofs.YtmjnakhpekbenaaGreat
namespace Go.Proofs.YtmjnakhpekbenaaGreat
open Go.RowKit Fw
namespace Ec
theorem hadd (bb o k:Nat):(⟨bb,o,none⟩:Addr).add k=⟨bb,o+k,none⟩:=by unfold Addr.add;split <;> simp_all
theorem infoR:(Tryz.prog.info? 51).map (fun i=>(i.zero,i.size,i.bytes))=some (some (.agg #[.int .i64 0,.int .i64 0,.int .i64 0]),3,24):=by kernel_rfl
theorem infoR':∃ i,Tryz.prog.info? 51=some i∧i.zero=some (.agg #[.int .i64 0,.int .i64 0,.int .i64 0])∧i.size=3∧i.bytes=24:=by
  obtain⟨i,hi,h⟩:=Option.map_eq_some_iff.1 infoR;simp only [Prod.mk.injEq] at h;exact⟨i,hi,h.1,h.2.1,h.2.2⟩
end Ec
end Go.Proofs.YtmjnakhpekbenaaGreat
namespace Go.Proofs.YtmjnakhpekbenaaGreat
open Go.RowKit Fw
namespace Ca
structure SlI where
  q:Option Addr
  xs:List Int
  c:Nat
abbrev slV (r:SlI):Value:=.slice r.q r.xs.length r.c
structure InR (w:World) (r:SlI):Prop where
  row:InI w r.q r.xs
  hc:r.xs.length≤r.c
  hm:r.c≤maxLen
  hw:∀ x∈r.xs,Wi x
structure InS2 (w:World) (p:Option Addr) (S:List SlI):Prop where
  row:0<S.length→∃ g o,p=some ⟨g,o,none⟩∧∀ i,i<S.length→w.rangeAt g (o+i) [slV (S.getD i ⟨none,[],0⟩)]
  inn:∀ r∈S,InR w r
theorem InR.below {w w':World} {r:SlI} (h:InR w r) (hb:Below w.heap.size w w'):InR w' r:=⟨h.row.below hb,h.hc,h.hm,h.hw⟩
theorem InS2.below {w w':World} {p:Option Addr} {S:List SlI} (h:InS2 w p S) (hb:Below w.heap.size w w'):InS2 w' p S :=
  ⟨fun h0=>by
    obtain⟨g,o,hp,hr⟩:=h.row h0;exact⟨g,o,hp,fun i hi=>HP.oldRange (HP.of_below (S:=Tr) hb) trivial (hr i hi)⟩,fun r hr=>(h.inn r hr).below hb⟩
def okX (s k:Int) (xs:List Int) (i:Nat):Bool:=wn (xs.getD i 0) 0 999 && (decide ((xs.getD i 0).tmod s=k) && !((xs.take i).contains (xs.getD i 0)))
def okR (s y k:Int) (xs:List Int):Bool:=decide ((xs.length:Int)≤y) && (List.range xs.length).all (okX s k xs)
def okSt (s y l m:Int) (X:List (List Int)):Bool:=vG s y l m && (decide ((X.length:Int)=s) && (List.range X.length).all fun k=>okR s y (k:Int) (X.getD k []))
theorem okR_iff {s y k:Int} {xs:List Int}:okR s y k xs=true↔(xs.length:Int)≤y∧∀ i,i<xs.length→okX s k xs i=true:=by simp [okR]
theorem okSt_iff {s y l m:Int} {X:List (List Int)}:okSt s y l m X=true↔vG s y l m=true∧(X.length:Int)=s∧∀ k,k<X.length→okR s y (k:Int) (X.getD k [])=true:=by simp [okSt]
theorem okSt_bad {s y l m:Int} {X:List (List Int)} {k:Nat} (hk:k<X.length) (h:okR s y (k:Int) (X.getD k [])=false):okSt s y l m X=false:=by
  cases q:okSt s y l m X with
  | false=>rfl
  | true=>have:=(okSt_iff.1 q).2.2 k hk;rw [h] at this;cases this
theorem okR_bad {s y k:Int} {xs:List Int} {i:Nat} (hi:i<xs.length) (h:okX s k xs i=false):okR s y k xs=false:=by
  cases q:okR s y k xs with
  | false=>rfl
  | true=>have:=(okR_iff.1 q).2 i hi;rw [h] at this;cases this
theorem okR_long {s y k:Int} {xs:List Int} (h:¬ (xs.length:Int)≤y):okR s y k xs=false:=by unfold okR;rw [decide_eq_false h];rfl
def stX (S:List SlI):List (List Int):=S.map (·.xs)
theorem stX_at {S:List SlI} {k:Nat} {r:SlI} (h:S[k]?=some r):(stX S).getD k []=r.xs∧S.getD k ⟨none,[],0⟩=r∧k<S.length∧r∈S:=by
  have hlt:=(List.getElem?_eq_some_iff.1 h).1;exact⟨by simp [stX,List.getD_eq_getElem?_getD,h],by simp [List.getD_eq_getElem?_getD,h],hlt,List.mem_of_getElem? h⟩
theorem stX_len (S:List SlI):(stX S).length=S.length:=by simp [stX]
theorem cells_of {w:World} {g o:Nat} {xs:List Int} (h:∀ i,i<xs.length→w.rangeAt g (o+i) [vI (xs.getD i 0)]):∀ j,j<xs.length→w.cell? ⟨g,o+j,none⟩=some (.int .i64 (xs.getD j 0)):=fun j hj=>by
  have:=h j hj 0 _ rfl;simpa using this
end Ca
end Go.Proofs.YtmjnakhpekbenaaGreat
namespace Go.Proofs.YtmjnakhpekbenaaGreat
set_option maxRecDepth 20000
set_option maxHeartbeats 4000000
open Go.RowKit Fw
namespace Ca
def plc (x:Int):List Int→Option Nat
  | []=>none
  | a::r=>if a=x then some 0 else (plc x r).map (·+1)
theorem plc_none {x:Int}:∀ {xs:List Int},(∀ i,i<xs.length→xs.getD i 0≠x)→plc x xs=none
  | [],_=>rfl
  | a::r,h=>by
    have h0:=h 0 (by simp);have:=plc_none (x:=x) (xs:=r) fun i hi=>by have:=h (i+1) (by simpa using hi);simpa using this
    simp only [plc];rw [if_neg (by simpa using h0),this];rfl
theorem plc_some {x:Int}:∀ {xs:List Int} {k:Nat},k<xs.length→xs.getD k 0=x→(∀ i,i<k→xs.getD i 0≠x)→plc x xs=some k
  | [],k,hk,_,_=>by simp at hk
  | a::r,0,_,h,_=>by simp only [plc];rw [if_pos (by simpa using h)]
  | a::r,k+1,hk,h,hn=>by
    have h0:=hn 0 (by omega);have:=plc_some (x:=x) (xs:=r) (k:=k) (by simpa using hk) (by simpa using h) fun i hi=>by have:=hn (i+1) (by omega);simpa using this
    simp only [plc];rw [if_neg (by simpa using h0),this];rfl
def plcV (x:Int) (xs:List Int):Int:=match plc x xs with | some k=>(k:Int) | none=>-1
theorem plcV_ge {x:Int}:∀ {xs:List Int},0≤plcV x xs↔xs.contains x=true:=by
  intro xs;have key:∀ xs:List Int,(plc x xs).isSome=xs.contains x:=by
    intro xs;induction xs with
    | nil=>rfl
    | cons a r ih =>
      simp only [plc,List.contains_cons];by_cases h:a=x
      · rw [if_pos h];subst h;simp
      · rw [if_neg h, Option.isSome_map, ih]
        have:(x==a)=false:=(by simpa using fun e=>h e.symm);rw [this,Bool.false_or]
  unfold plcV;have:=key xs;cases h:plc x xs with
  | none=>rw [h] at this;simp at this ⊢;exact this
  | some k=>rw [h] at this;simp at this ⊢;exact this
theorem take_row {w:World} {g o i:Nat} {xs:List Int} (hi:i≤xs.length) (h:∀ j,j<xs.length→w.rangeAt g (o+j) [vI (xs.getD j 0)]):InI w (some ⟨g,o,none⟩) (xs.take i):=fun _=>by
  refine⟨g,o,rfl,fun j hj=>?_⟩;have hj':j<i:=(by simp at hj;omega);have:=h j (by omega);have e:(xs.take i).getD j 0=xs.getD j 0:=(by simp [List.getD_eq_getElem?_getD,List.getElem?_take,hj']);rw [e];exact this
theorem sz32:(Tryz.prog.info? 32).map (·.size)=some 1:=by kernel_rfl
theorem place_any (q:Option Addr) (xs:List Int) (c:Nat) (w:World) (hI:InI w q xs) (hn:xs.length≤281474976710656) (x:Int) :
  Calls Tryz.prog 25 #[.slice q xs.length c,vI x] w fun e w'=>e=.returned (.int .i64 (plcV x xs))∧Below w.heap.size w w':=by
 refine calls_of Tryz.func25 rfl (m:=19) rfl [(0,.slice q xs.length c),(1,vI x)] (Fr_enter [.slice q xs.length c,vI x] 19 (Nat.le_of_ble_eq_true rfl)) ?_;have hH1:HP Tr w w []:=HP.refl w;refine WC.seq fun K2 hK2=>WC.region (WL.z (vI 0) 4 (WL.k hK2 (WC.seq fun K3 hK3=>WC.seq fun K4 hK4=>WC.region (WL.z (vI 0) 5 (WL.nil (WQ.then ?_))))));refine hK4 _ _ _ (WC.block ?_);refine WC.loop (fun kk0 ll0 ww0=>∃ (i:Nat),ll0=[(0,.slice q xs.length c),(1,vI x),(5,vI (i:Int))]∧kk0=xs.length-i∧(i≤xs.length)∧(∀ j,j<i→xs.getD j 0≠x)∧HP Tr w ww0 []) (xs.length) [(0,.slice q xs.length c),(1,vI x),(5,vI 0)] ⟨rfl,rfl,rfl,trivial⟩ ⟨0,rfl,rfl,Nat.zero_le _,fun j hj=>by omega,hH1⟩ ?_;rintro kk l w6 ⟨i,rfl,hkk,hi,hno,hH7⟩ K5 hK5;refine WC.seq fun K8 hK8=>WC.seq fun K9 hK9=>WC.region (WL.z (vI (i:Int)) 6 (WL.z (.slice q xs.length c) 7 (WL.z (vI (xs.length:Int)) 8 ?_)));by_cases hlt:(i:Int)<(xs.length:Int)
 ·
  refine WL.y (.bool true) 9 (x_lss rfl rfl rfl (dT (hlt))) (WL.k hK9 ?_);refine WC.yes rfl ?_;refine WC.skip (WQ.then (hK8 _ _ _ (WC.seq fun K10 hK10=>WC.block (WC.seq fun K11 hK11=>?_))));obtain⟨g,o,rfl,hrow⟩:=hI (by omega);refine WC.region (WL.z (.slice (some ⟨g,o,none⟩) xs.length c) 12 (WL.z (vI (i:Int)) 13 (WL.y (vP g (o+i)) 14 (x_ix (i) (o+i) Tryz.underlying32 sz3) (WL.y (vI (xs.getD i 0)) 15 (x_load rfl rfl Tryz.underlying3 rfl ((HP.oldRange hH7 trivial (hrow i (by omega))) 0 _ rfl)) (WL.z (vI x) 16 ?_)))));by_cases heq:xs.getD i 0=x
  ·
   refine WL.y (.bool true) 17 (x_eql rfl rfl rfl (dT (heq))) (WL.k hK11 (WC.sb [(0,.slice (some ⟨g,o,none⟩) xs.length c),(1,vI x),(5,vI (i:Int)),(9,.bool true),(17,.bool true)] ?_));refine WC.yes rfl ?_;refine WC.seq fun K12 hK12=>WC.region (WL.z (vI (i:Int)) 18 (WL.z (vI (i:Int)) 4 (WL.k hK12 (WC.ret ?_))));refine WQ.inRet ?_;refine WQ.thenRet ?_;refine WQ.thenRet ?_;refine WQ.inRet ?_;refine WQ.thenRet ?_;refine WQ.ret1 4 rfl rfl ?_;exact⟨by unfold plcV;rw [plc_some (show i<xs.length by omega) heq hno],HP.below hH7⟩
  ·
   refine WL.y (.bool false) 17 (x_eql rfl rfl rfl (dF (heq))) (WL.k hK11 (WC.sb [(0,.slice (some ⟨g,o,none⟩) xs.length c),(1,vI x),(5,vI (i:Int)),(9,.bool true),(17,.bool false)] ?_));refine WC.no rfl ?_;refine WC.skip (WQ.inNormal (WQ.then (hK10 _ _ _ (WC.region (WL.z (vI (i:Int)) 10 (WL.y (vI ((i+1:Nat):Int)) 11 (x_ad (((i+1:Nat):Int))) (WL.z (vI ((i+1:Nat):Int)) 5 (WL.nil (WQ.sb [(0,.slice (some ⟨g,o,none⟩) xs.length c),(1,vI x),(5,vI ((i+1:Nat):Int))] ?_)))))))));refine WQ.then (hK5 _ _ _ (by omega) ⟨i+1,rfl,rfl,by omega,fun j hj=>by
        by_cases q9:j=i
        · subst q9;exact heq
        · exact hno j (by omega),hH7⟩)
 ·
  refine WL.y (.bool false) 9 (x_lss rfl rfl rfl (dF (hlt))) (WL.k hK9 ?_);refine WC.no rfl ?_;refine WC.exit (WQ.thenExit (WQ.thenExit (WQ.inExit (WQ.then (hK3 _ _ _ (WC.seq fun K13 hK13=>WC.region (WL.z (vI (-1)) 4 (WL.k hK13 ?_))))))));refine WC.ret ?_;refine WQ.ret1 4 rfl rfl ?_;exact⟨by unfold plcV;rw [plc_none (fun j hj=>hno j (by omega))],HP.below hH7⟩
theorem ValidState_any (s y l m:Int) (p:Option Addr) (S:List SlI) (cp:Nat) (w:World) (hS:InS2 w p S) (hn:S.length≤281474976710656) :
  Calls Tryz.prog 53 #[.agg #[vI s,vI y,vI l,vI m],.slice p S.length cp] w fun e w'=>e=.returned (.bool (okSt s y l m (stX S)))∧Below w.heap.size w w':=by
 refine calls_of Tryz.func53 rfl (m:=58) rfl [(0,.agg #[vI s,vI y,vI l,vI m]),(1,.slice p S.length cp)] (Fr_enter [.agg #[vI s,vI y,vI l,vI m],.slice p S.length cp] 58 (Nat.le_of_ble_eq_true rfl)) ?_;have hH1:HP Tr w w []:=HP.refl w;refine WC.seq fun K2 hK2=>WC.region ?_;refine WL.alloc (c:=#[vI s,vI y,vI l,vI m]) (T:=23) hH1 2 rfl (by decide) rfl rfl (fun b2=>vP b2 0) (by kernel_rfl) (fun b2 w3 hw3=>?_);have hH4:HP Tr w w3 [.cel b2 #[vI s,vI y,vI l,vI m] 23]:=hw3.2;have nb2:=hw3.1;clear hw3;refine WL.z (.bool false) 4 (WL.k hK2 (WC.seq fun K5 hK5=>WC.seq fun K6 hK6=>WC.region (WL.y (.agg #[vI s,vI y,vI l,vI m]) 9 (x_loadS (cs:=[vI s,vI y,vI l,vI m]) rfl rfl Tryz.underlying23 rfl sz23 (HP.range hH4 0 rfl rfl)) ?_)));rcases Bool.eq_false_or_eq_true (vG s y l m) with hg | hg
 ·
  refine WL.c 58 #[.agg #[vI s,vI y,vI l,vI m]] 10 ?_;refine(Valid_any s y l m _).mono ?_;rw [hg];rintro e w7 ⟨rfl,hb9⟩;refine⟨_,rfl,?_⟩;have hH8:=HP.call hH4 hb9;obtain⟨⟨hs1,hs2⟩,⟨hy1,hy2⟩,-,-⟩:=vG_iff.1 hg;refine WL.z (.bool false) 11 (WL.z (.bool false) 12 (WL.z (.slice p S.length cp) 13 (WL.z (vI (S.length:Int)) 14 (WL.z (vP b2 0) 15 (WL.y (vI s) 16 (x_load rfl rfl Tryz.underlying3 rfl (HP.cell hH8 0 rfl rfl)) ?_)))));by_cases hsl:(S.length:Int)≠s
  ·
   refine WL.y (.bool true) 17 (x_neq rfl rfl rfl (dT (hsl))) (WL.z (.bool true) 18 (WL.k hK6 (WC.sb [(0,.agg #[vI s,vI y,vI l,vI m]),(1,.slice p S.length cp),(2,vP b2 0),(4,.bool false),(18,.bool true)] ?_)));refine WC.yes rfl ?_;refine WC.seq fun K9 hK9=>WC.region (WL.z (.bool false) 4 (WL.k hK9 (WC.ret ?_)));refine WQ.thenRet ?_;refine WQ.ret1 4 rfl rfl ?_;exact⟨by unfold okSt;rw [hg,stX_len,decide_eq_false (by omega)];rfl,HP.below hH8⟩
  ·
   refine WL.y (.bool false) 17 (x_neq rfl rfl rfl (dF (hsl))) (WL.z (.bool false) 18 (WL.k hK6 (WC.sb [(0,.agg #[vI s,vI y,vI l,vI m]),(1,.slice p S.length cp),(2,vP b2 0),(4,.bool false),(18,.bool false)] ?_)));refine WC.no rfl ?_;refine WC.skip (WQ.then (hK5 _ _ _ (WC.seq fun K10 hK10=>WC.seq fun K11 hK11=>WC.region (WL.z (.slice p S.length cp) 19 (WL.z (vI (S.length:Int)) 20 (WL.z (vI 0) 21 (WL.k hK11 ?_)))))));refine WC.block ?_;refine WC.loop (fun kk0 ll0 ww0=>∃ (k:Nat),ll0=[(1,.slice p S.length cp),(2,vP b2 0),(19,.slice p S.length cp),(20,vI (S.length:Int)),(21,vI (k:Int))]∧kk0=S.length-k∧(k≤S.length)∧(∀ j,j<k→okR s y (j:Int) ((stX S).getD j [])=true)∧HP Tr w ww0 [.cel b2 #[vI s,vI y,vI l,vI m] 23]) (S.length) [(1,.slice p S.length cp),(2,vP b2 0),(19,.slice p S.length cp),(20,vI (S.length:Int)),(21,vI 0)] ⟨rfl,rfl,rfl,rfl,rfl,trivial⟩ ⟨0,rfl,rfl,Nat.zero_le _,fun j hj=>by omega,hH8⟩ ?_;rintro kk l w13 ⟨k,rfl,hkk,hk,hok,hH14⟩ K12 hK12;refine WC.seq fun K15 hK15=>WC.region ?_;by_cases hlt:(k:Int)<(S.length:Int)
   ·
    refine WL.y (.bool true) 22 (x_lss rfl rfl rfl (dT (hlt))) (WL.k hK15 (WC.seq fun K16 hK16=>?_));refine WC.yes rfl ?_;refine WC.skip (WQ.then (hK16 _ _ _ (WC.seq fun K17 hK17=>WC.block (WC.seq fun K18 hK18=>?_))));obtain⟨r,hr⟩:∃ r,S[k]?=some r:=⟨S[k]'(by omega),List.getElem?_eq_getElem _⟩;obtain⟨hr1,hr2,hr3,hr4⟩:=stX_at hr;have hIR:=hS.inn r hr4;obtain⟨q,xs,c⟩:=r;have hI:InI w q xs:=hIR.row;have hxc:xs.length≤c:=hIR.hc;have hcm:c≤maxLen:=hIR.hm;unfold maxLen at hcm;simp only [] at hr1 hr2;obtain⟨gS,oS,hpS,hrowS⟩:=hS.row (by omega);subst hpS;refine WC.region (WL.z (vI (k:Int)) 23 (WL.y (vP gS (oS+k)) 24 (x_ix (k) (oS+k) Tryz.underlying33 sz32) (WL.y (.slice q xs.length c) 25 (x_load rfl rfl Tryz.underlying32 rfl ((HP.oldRange hH14 trivial (show w.rangeAt gS (oS+k) [slV ⟨q,xs,c⟩] by have q9:=hrowS k (by omega);rw [hr2] at q9;exact q9)) 0 _ rfl)) (WL.z (vI (k:Int)) 5 (WL.z (.slice q xs.length c) 6 (WL.k hK18 (WC.seq fun K19 hK19=>WC.seq fun K20 hK20=>WC.region ?_)))))));refine WL.z (.slice q xs.length c) 26 (WL.z (vI (xs.length:Int)) 27 (WL.z (vP b2 1) 28 (WL.y (vI y) 29 (x_load rfl rfl Tryz.underlying3 rfl (HP.cell hH14 0 rfl rfl)) ?_)));by_cases hlong:y<(xs.length:Int)
    ·
     refine WL.y (.bool true) 30 (x_gtr rfl rfl rfl (dT (hlong))) (WL.k hK20 (WC.sb [(1,.slice (some ⟨gS,oS,none⟩) S.length cp),(2,vP b2 0),(5,vI (k:Int)),(6,.slice q xs.length c),(19,.slice (some ⟨gS,oS,none⟩) S.length cp),(20,vI (S.length:Int)),(21,vI (k:Int)),(22,.bool true),(30,.bool true)] ?_));refine WC.yes rfl ?_;refine WC.seq fun K21 hK21=>?_;have hbad:okR s y (k:Int) ((stX S).getD k [])=false:=(by rw [hr1];exact okR_long (by omega));refine WC.region (WL.z (.bool false) 4 (WL.k hK21 (WC.ret ?_)));refine WQ.thenRet ?_;refine WQ.inRet ?_;refine WQ.thenRet ?_;refine WQ.thenRet ?_;refine WQ.inRet ?_;refine WQ.thenRet ?_;refine WQ.ret1 4 rfl rfl ?_;exact⟨by rw [okSt_bad (by rw [stX_len];omega) hbad],HP.below hH14⟩
    ·
     refine WL.y (.bool false) 30 (x_gtr rfl rfl rfl (dF (hlong))) (WL.k hK20 (WC.sb [(1,.slice (some ⟨gS,oS,none⟩) S.length cp),(2,vP b2 0),(5,vI (k:Int)),(6,.slice q xs.length c),(19,.slice (some ⟨gS,oS,none⟩) S.length cp),(20,vI (S.length:Int)),(21,vI (k:Int)),(22,.bool true),(30,.bool false)] ?_));refine WC.no rfl ?_;refine WC.skip (WQ.then (hK19 _ _ _ (WC.seq fun K22 hK22=>WC.region (WL.z (.slice q xs.length c) 31 (WL.z (vI (xs.length:Int)) 32 (WL.z (vI 0) 33 (WL.k hK22 (WC.block ?_))))))));refine WC.loop (fun kk0 ll0 ww0=>∃ (i:Nat),ll0=[(1,.slice (some ⟨gS,oS,none⟩) S.length cp),(2,vP b2 0),(5,vI (k:Int)),(6,.slice q xs.length c),(19,.slice (some ⟨gS,oS,none⟩) S.length cp),(20,vI (S.length:Int)),(21,vI (k:Int)),(31,.slice q xs.length c),(32,vI (xs.length:Int)),(33,vI (i:Int))]∧kk0=xs.length-i∧(i≤xs.length)∧(∀ j,j<i→okX s (k:Int) xs j=true)∧HP Tr w ww0 [.cel b2 #[vI s,vI y,vI l,vI m] 23]) (xs.length) [(1,.slice (some ⟨gS,oS,none⟩) S.length cp),(2,vP b2 0),(5,vI (k:Int)),(6,.slice q xs.length c),(19,.slice (some ⟨gS,oS,none⟩) S.length cp),(20,vI (S.length:Int)),(21,vI (k:Int)),(31,.slice q xs.length c),(32,vI (xs.length:Int)),(33,vI 0)] ⟨rfl,rfl,rfl,rfl,rfl,rfl,rfl,rfl,rfl,rfl,trivial⟩ ⟨0,rfl,rfl,Nat.zero_le _,fun j hj=>by omega,hH14⟩ ?_;rintro kk l w24 ⟨i,rfl,hkk,hi,hokj,hH25⟩ K23 hK23;refine WC.seq fun K26 hK26=>WC.region ?_;by_cases hi2:(i:Int)<(xs.length:Int)
     ·
      refine WL.y (.bool true) 34 (x_lss rfl rfl rfl (dT (hi2))) (WL.k hK26 (WC.seq fun K27 hK27=>?_));refine WC.yes rfl ?_;refine WC.skip (WQ.then (hK27 _ _ _ (WC.seq fun K28 hK28=>WC.block (WC.seq fun K29 hK29=>?_))));obtain⟨g,o,rfl,hrow⟩:=hI (by omega);refine WC.region (WL.z (vI (i:Int)) 35 (WL.y (vP g (o+i)) 36 (x_ix (i) (o+i) Tryz.underlying32 sz3) (WL.y (vI (xs.getD i 0)) 37 (x_load rfl rfl Tryz.underlying3 rfl ((HP.oldRange hH25 trivial (hrow i (by omega))) 0 _ rfl)) (WL.z (vI (i:Int)) 7 (WL.z (vI (xs.getD i 0)) 8 (WL.k hK29 (WC.seq fun K30 hK30=>WC.region (WL.z (vI (xs.getD i 0)) 38 ?_))))))));rcases Bool.eq_false_or_eq_true (wn (xs.getD i 0) 0 999) with hA | hA
      ·
       refine WL.c 52 #[vI (xs.getD i 0),vI 0,vI 999] 39 ?_;refine(within_at hA _).mono ?_;rintro e w31 ⟨rfl,rfl⟩;refine⟨_,rfl,?_⟩;refine WL.z (.bool false) 40 (WL.z (.bool false) 41 (WL.z (vI (xs.getD i 0)) 42 (WL.z (vP b2 0) 43 (WL.y (vI s) 44 (x_load rfl rfl Tryz.underlying3 rfl (HP.cell hH25 0 rfl rfl)) (WL.y (vI ((xs.getD i 0).tmod s)) 45 (x_rem rfl rfl rfl (by omega) rfl) (WL.z (vI (k:Int)) 46 ?_))))));by_cases h47:(xs.getD i 0).tmod s≠(k:Int)
       ·
        refine WL.y (.bool true) 47 (x_neq rfl rfl rfl (dT (h47))) (WL.z (.bool true) 48 (WL.z (.bool true) 49 (WL.p 50 (WL.p 51 (WL.p 52 (WL.p 53 (WL.p 54 (WL.z (.bool true) 55 (WL.k hK30 ?_)))))))));refine WC.sb [(1,.slice (some ⟨gS,oS,none⟩) S.length cp),(2,vP b2 0),(5,vI (k:Int)),(6,.slice (some ⟨g,o,none⟩) xs.length c),(7,vI (i:Int)),(8,vI (xs.getD i 0)),(19,.slice (some ⟨gS,oS,none⟩) S.length cp),(20,vI (S.length:Int)),(21,vI (k:Int)),(31,.slice (some ⟨g,o,none⟩) xs.length c),(32,vI (xs.length:Int)),(33,vI (i:Int)),(34,.bool true),(55,.bool true)] ?_;refine WC.yes rfl ?_;refine WC.seq fun K32 hK32=>?_;have hbx:okX s (k:Int) xs i=false:=(by unfold okX;rw [hA,decide_eq_false h47];rfl);have hbad:okR s y (k:Int) ((stX S).getD k [])=false:=(by rw [hr1];exact okR_bad (by omega) hbx);refine WC.region (WL.z (.bool false) 4 (WL.k hK32 (WC.ret ?_)));refine WQ.inRet ?_;refine WQ.thenRet ?_;refine WQ.thenRet ?_;refine WQ.inRet ?_;refine WQ.inRet ?_;refine WQ.thenRet ?_;refine WQ.thenRet ?_;refine WQ.inRet ?_;refine WQ.thenRet ?_;refine WQ.ret1 4 rfl rfl ?_;exact⟨by rw [okSt_bad (by rw [stX_len];omega) hbad],HP.below hH25⟩
       ·
        refine WL.y (.bool false) 47 (x_neq rfl rfl rfl (dF (h47))) (WL.z (.bool false) 48 (WL.z (.bool false) 49 (WL.z (.slice (some ⟨g,o,none⟩) xs.length c) 50 (WL.z (vI (i:Int)) 51 (WL.y (.slice (some ⟨g,o,none⟩) i c) 52 (x_sliceH (i) rfl rfl rfl Tryz.underlying32 (by omega) (by omega) sz3) (WL.z (vI (xs.getD i 0)) 53 ?_))))));rcases Bool.eq_false_or_eq_true ((xs.take i).contains (xs.getD i 0)) with hC | hC
        ·
         refine WL.c 79 #[.slice (some ⟨g,o,none⟩) i c,vI (xs.getD i 0)] 54 ?_;refine(((Tryz.slices_Contains_int g o i c xs (xs.getD i 0) _ (by omega) (by omega) (cells_of fun j hj=>HP.oldRange hH25 trivial (hrow j hj))).mono fun e w' h=>(show e=.returned (.bool true)∧_=w' from ⟨by rw [h.1,hC],h.2.symm⟩))).mono ?_;rintro e w33 ⟨rfl,rfl⟩;refine⟨_,rfl,?_⟩;refine WL.z (.bool true) 55 (WL.k hK30 (WC.sb [(1,.slice (some ⟨gS,oS,none⟩) S.length cp),(2,vP b2 0),(5,vI (k:Int)),(6,.slice (some ⟨g,o,none⟩) xs.length c),(7,vI (i:Int)),(8,vI (xs.getD i 0)),(19,.slice (some ⟨gS,oS,none⟩) S.length cp),(20,vI (S.length:Int)),(21,vI (k:Int)),(31,.slice (some ⟨g,o,none⟩) xs.length c),(32,vI (xs.length:Int)),(33,vI (i:Int)),(34,.bool true),(55,.bool true)] ?_));refine WC.yes rfl ?_;refine WC.seq fun K34 hK34=>?_;have hbx:okX s (k:Int) xs i=false:=(by unfold okX;rw [hA,decide_eq_true (Classical.not_not.1 h47),hC];rfl);have hbad:okR s y (k:Int) ((stX S).getD k [])=false:=(by rw [hr1];exact okR_bad (by omega) hbx);refine WC.region (WL.z (.bool false) 4 (WL.k hK34 (WC.ret ?_)));refine WQ.inRet ?_;refine WQ.thenRet ?_;refine WQ.thenRet ?_;refine WQ.inRet ?_;refine WQ.inRet ?_;refine WQ.thenRet ?_;refine WQ.thenRet ?_;refine WQ.inRet ?_;refine WQ.thenRet ?_;refine WQ.ret1 4 rfl rfl ?_;exact⟨by rw [okSt_bad (by rw [stX_len];omega) hbad],HP.below hH25⟩
        ·
         refine WL.c 79 #[.slice (some ⟨g,o,none⟩) i c,vI (xs.getD i 0)] 54 ?_;refine(((Tryz.slices_Contains_int g o i c xs (xs.getD i 0) _ (by omega) (by omega) (cells_of fun j hj=>HP.oldRange hH25 trivial (hrow j hj))).mono fun e w' h=>(show e=.returned (.bool false)∧_=w' from ⟨by rw [h.1,hC],h.2.symm⟩))).mono ?_;rintro e w35 ⟨rfl,rfl⟩;refine⟨_,rfl,?_⟩;refine WL.z (.bool false) 55 (WL.k hK30 (WC.sb [(1,.slice (some ⟨gS,oS,none⟩) S.length cp),(2,vP b2 0),(5,vI (k:Int)),(6,.slice (some ⟨g,o,none⟩) xs.length c),(7,vI (i:Int)),(8,vI (xs.getD i 0)),(19,.slice (some ⟨gS,oS,none⟩) S.length cp),(20,vI (S.length:Int)),(21,vI (k:Int)),(31,.slice (some ⟨g,o,none⟩) xs.length c),(32,vI (xs.length:Int)),(33,vI (i:Int)),(34,.bool true),(55,.bool false)] ?_));refine WC.no rfl ?_;refine WC.skip (WQ.inNormal (WQ.then (hK28 _ _ _ ?_)));have hokx:okX s (k:Int) xs i=true:=(by unfold okX;rw [hA,decide_eq_true (Classical.not_not.1 h47),hC];rfl);refine WC.region (WL.y (vI ((i+1:Nat):Int)) 56 (x_ad (((i+1:Nat):Int))) (WL.z (vI ((i+1:Nat):Int)) 33 (WL.nil (WQ.sb [(1,.slice (some ⟨gS,oS,none⟩) S.length cp),(2,vP b2 0),(5,vI (k:Int)),(6,.slice (some ⟨g,o,none⟩) xs.length c),(19,.slice (some ⟨gS,oS,none⟩) S.length cp),(20,vI (S.length:Int)),(21,vI (k:Int)),(31,.slice (some ⟨g,o,none⟩) xs.length c),(32,vI (xs.length:Int)),(33,vI ((i+1:Nat):Int))] ?_))));refine WQ.then (hK23 _ _ _ (by omega) ⟨i+1,rfl,rfl,by omega,fun j hj=>by
                    by_cases q9:j=i
                    · subst q9;exact hokx
                    · exact hokj j (by omega),hH25⟩)
      ·
       refine WL.c 52 #[vI (xs.getD i 0),vI 0,vI 999] 39 ?_;refine(within_at hA _).mono ?_;rintro e w36 ⟨rfl,rfl⟩;refine⟨_,rfl,?_⟩;refine WL.z (.bool true) 40 (WL.z (.bool true) 41 (WL.p 42 (WL.p 43 (WL.p 44 (WL.p 45 (WL.p 46 (WL.p 47 (WL.z (.bool true) 48 (WL.z (.bool true) 49 (WL.p 50 (WL.p 51 ?_)))))))))));refine WL.p 52 (WL.p 53 (WL.p 54 (WL.z (.bool true) 55 (WL.k hK30 (WC.sb [(1,.slice (some ⟨gS,oS,none⟩) S.length cp),(2,vP b2 0),(5,vI (k:Int)),(6,.slice (some ⟨g,o,none⟩) xs.length c),(7,vI (i:Int)),(8,vI (xs.getD i 0)),(19,.slice (some ⟨gS,oS,none⟩) S.length cp),(20,vI (S.length:Int)),(21,vI (k:Int)),(31,.slice (some ⟨g,o,none⟩) xs.length c),(32,vI (xs.length:Int)),(33,vI (i:Int)),(34,.bool true),(55,.bool true)] ?_)))));refine WC.yes rfl ?_;refine WC.seq fun K37 hK37=>?_;have hbx:okX s (k:Int) xs i=false:=(by unfold okX;rw [hA];rfl);have hbad:okR s y (k:Int) ((stX S).getD k [])=false:=(by rw [hr1];exact okR_bad (by omega) hbx);refine WC.region (WL.z (.bool false) 4 (WL.k hK37 (WC.ret ?_)));refine WQ.inRet ?_;refine WQ.thenRet ?_;refine WQ.thenRet ?_;refine WQ.inRet ?_;refine WQ.inRet ?_;refine WQ.thenRet ?_;refine WQ.thenRet ?_;refine WQ.inRet ?_;refine WQ.thenRet ?_;refine WQ.ret1 4 rfl rfl ?_;exact⟨by rw [okSt_bad (by rw [stX_len];omega) hbad],HP.below hH25⟩
     ·
      refine WL.y (.bool false) 34 (x_lss rfl rfl rfl (dF (hi2))) (WL.k hK26 (WC.seq fun K38 hK38=>?_));refine WC.no rfl ?_;refine WC.exit (WQ.thenExit (WQ.thenExit (WQ.inExit (WQ.inNormal (WQ.then (hK17 _ _ _ (WC.region (WL.y (vI ((k+1:Nat):Int)) 57 (x_ad (((k+1:Nat):Int))) (WL.z (vI ((k+1:Nat):Int)) 21 (WL.nil ?_))))))))));have hrk:okR s y (k:Int) ((stX S).getD k [])=true:=(by rw [hr1];exact okR_iff.2 ⟨by omega,fun j hj=>hokj j (by omega)⟩);refine WQ.sb [(1,.slice (some ⟨gS,oS,none⟩) S.length cp),(2,vP b2 0),(19,.slice (some ⟨gS,oS,none⟩) S.length cp),(20,vI (S.length:Int)),(21,vI ((k+1:Nat):Int))] ?_;refine WQ.then (hK12 _ _ _ (by omega) ⟨k+1,rfl,rfl,by omega,fun j hj=>by
              by_cases q9:j=k
              · subst q9;exact hrk
              · exact hok j (by omega),hH25⟩)
   ·
    refine WL.y (.bool false) 22 (x_lss rfl rfl rfl (dF (hlt))) (WL.k hK15 (WC.seq fun K39 hK39=>?_));refine WC.no rfl ?_;refine WC.exit (WQ.thenExit (WQ.thenExit (WQ.inExit (WQ.then (hK10 _ _ _ (WC.seq fun K40 hK40=>WC.region (WL.z (.bool true) 4 (WL.k hK40 ?_))))))));refine WC.ret ?_;refine WQ.ret1 4 rfl rfl ?_;exact⟨by rw [okSt_iff.2 ⟨hg,by rw [stX_len];omega,fun j hj=>hok j (by rw [stX_len] at hj;omega)⟩],HP.below hH14⟩
 ·
  refine WL.c 58 #[.agg #[vI s,vI y,vI l,vI m]] 10 ?_;refine(Valid_any s y l m _).mono ?_;rw [hg];rintro e w41 ⟨rfl,hb9⟩;refine⟨_,rfl,?_⟩;have hH42:=HP.call hH4 hb9;refine WL.z (.bool true) 11 (WL.z (.bool true) 12 (WL.p 13 (WL.p 14 (WL.p 15 (WL.p 16 (WL.p 17 (WL.z (.bool true) 18 (WL.k hK6 (WC.sb [(0,.agg #[vI s,vI y,vI l,vI m]),(1,.slice p S.length cp),(2,vP b2 0),(4,.bool false),(18,.bool true)] ?_)))))))));refine WC.yes rfl ?_;refine WC.seq fun K43 hK43=>WC.region (WL.z (.bool false) 4 (WL.k hK43 (WC.ret ?_)));refine WQ.thenRet ?_;refine WQ.ret1 4 rfl rfl ?_;exact⟨by unfold okSt;rw [hg];rfl,HP.below hH42⟩
theorem rValidState_any (s y l m:Int) (p:Option Addr) (S:List SlI) (cp:Nat) (w:World) (hS:InS2 w p S) (hn:S.length≤281474976710656) :
  Calls Tryz.prog 11 #[.agg #[vI s,vI y,vI l,vI m],.slice p S.length cp] w fun e w'=>e=.returned (.bool (okSt s y l m (stX S)))∧Below w.heap.size w w':=by
 refine calls_of Tryz.func11 rfl (m:=73) rfl [(0,.agg #[vI s,vI y,vI l,vI m]),(1,.slice p S.length cp)] (Fr_enter [.agg #[vI s,vI y,vI l,vI m],.slice p S.length cp] 73 (Nat.le_of_ble_eq_true rfl)) ?_;have hH1:HP Tr w w []:=HP.refl w;refine WC.seq fun K2 hK2=>WC.region ?_;refine WL.alloc (c:=#[vI s,vI y,vI l,vI m]) (T:=23) hH1 2 rfl (by decide) rfl rfl (fun b2=>vP b2 0) (by kernel_rfl) (fun b2 w3 hw3=>?_);have hH4:HP Tr w w3 [.cel b2 #[vI s,vI y,vI l,vI m] 23]:=hw3.2;have nb2:=hw3.1;clear hw3;refine WL.z (.bool false) 4 (WL.k hK2 (WC.seq fun K5 hK5=>WC.seq fun K6 hK6=>WC.region (WL.y (.agg #[vI s,vI y,vI l,vI m]) 8 (x_loadS (cs:=[vI s,vI y,vI l,vI m]) rfl rfl Tryz.underlying23 rfl sz23 (HP.range hH4 0 rfl rfl)) ?_)));rcases Bool.eq_false_or_eq_true (vG s y l m) with hg | hg
 ·
  refine WL.c 21 #[.agg #[vI s,vI y,vI l,vI m]] 9 ?_;refine(rValid_any s y l m _).mono ?_;rw [hg];rintro e w7 ⟨rfl,hb9⟩;refine⟨_,rfl,?_⟩;have hH8:=HP.call hH4 hb9;obtain⟨⟨hs1,hs2⟩,⟨hy1,hy2⟩,-,-⟩:=vG_iff.1 hg;refine WL.z (.bool false) 10 (WL.z (.bool false) 11 (WL.z (.slice p S.length cp) 12 (WL.z (vI (S.length:Int)) 13 (WL.z (vP b2 0) 14 (WL.y (vI s) 15 (x_load rfl rfl Tryz.underlying3 rfl (HP.cell hH8 0 rfl rfl)) ?_)))));by_cases hsl:(S.length:Int)≠s
  ·
   refine WL.y (.bool true) 16 (x_neq rfl rfl rfl (dT (hsl))) (WL.z (.bool true) 17 (WL.k hK6 (WC.sb [(0,.agg #[vI s,vI y,vI l,vI m]),(1,.slice p S.length cp),(2,vP b2 0),(4,.bool false),(17,.bool true)] ?_)));refine WC.yes rfl ?_;refine WC.seq fun K9 hK9=>WC.region (WL.z (.bool false) 4 (WL.k hK9 (WC.ret ?_)));refine WQ.thenRet ?_;refine WQ.ret1 4 rfl rfl ?_;exact⟨by unfold okSt;rw [hg,stX_len,decide_eq_false (by omega)];rfl,HP.below hH8⟩
  ·
   refine WL.y (.bool false) 16 (x_neq rfl rfl rfl (dF (hsl))) (WL.z (.bool false) 17 (WL.k hK6 (WC.sb [(0,.agg #[vI s,vI y,vI l,vI m]),(1,.slice p S.length cp),(2,vP b2 0),(4,.bool false),(17,.bool false)] ?_)));refine WC.no rfl ?_;refine WC.skip (WQ.then (hK5 _ _ _ (WC.seq fun K10 hK10=>WC.seq fun K11 hK11=>WC.region (WL.z (vI 0) 5 (WL.k hK11 (WC.block ?_))))));refine WC.loop (fun kk0 ll0 ww0=>∃ (k:Nat),ll0=[(1,.slice p S.length cp),(2,vP b2 0),(5,vI (k:Int))]∧kk0=S.length-k∧(k≤S.length)∧(∀ j,j<k→okR s y (j:Int) ((stX S).getD j [])=true)∧HP Tr w ww0 [.cel b2 #[vI s,vI y,vI l,vI m] 23]) (S.length) [(1,.slice p S.length cp),(2,vP b2 0),(5,vI 0)] ⟨rfl,rfl,rfl,trivial⟩ ⟨0,rfl,rfl,Nat.zero_le _,fun j hj=>by omega,hH8⟩ ?_;rintro kk l w13 ⟨k,rfl,hkk,hk,hok,hH14⟩ K12 hK12;refine WC.seq fun K15 hK15=>WC.seq fun K16 hK16=>WC.region (WL.z (vI (k:Int)) 18 (WL.z (.slice p S.length cp) 19 (WL.z (vI (S.length:Int)) 20 ?_)));by_cases hlt:(k:Int)<(S.length:Int)
   ·
    refine WL.y (.bool true) 21 (x_lss rfl rfl rfl (dT (hlt))) (WL.k hK16 ?_);refine WC.yes rfl ?_;refine WC.skip (WQ.then (hK15 _ _ _ (WC.seq fun K17 hK17=>WC.block (WC.seq fun K18 hK18=>WC.seq fun K19 hK19=>?_))));obtain⟨r,hr⟩:∃ r,S[k]?=some r:=⟨S[k]'(by omega),List.getElem?_eq_getElem _⟩;obtain⟨hr1,hr2,hr3,hr4⟩:=stX_at hr;have hIR:=hS.inn r hr4;obtain⟨q,xs,c⟩:=r;have hI:InI w q xs:=hIR.row;have hxc:xs.length≤c:=hIR.hc;have hcm:c≤maxLen:=hIR.hm;unfold maxLen at hcm;simp only [] at hr1 hr2;obtain⟨gS,oS,hpS,hrowS⟩:=hS.row (by omega);subst hpS;refine WC.still (by kernel_rfl) (by kernel_rfl) ?_;have hH20:=HP.drew hH14;refine WS.z (.slice (some ⟨gS,oS,none⟩) S.length cp) 24 (WS.z (vI (k:Int)) 25 (WS.y (vP gS (oS+k)) 26 (x_ix (k) (oS+k) Tryz.underlying33 sz32) (WS.y (.slice q xs.length c) 27 (x_load rfl rfl Tryz.underlying32 rfl ((HP.oldRange hH20 trivial (show w.rangeAt gS (oS+k) [slV ⟨q,xs,c⟩] by have q9:=hrowS k (by omega);rw [hr2] at q9;exact q9)) 0 _ rfl)) (WS.z (vI (xs.length:Int)) 28 (WS.z (vP b2 1) 29 (WS.y (vI y) 30 (x_load rfl rfl Tryz.underlying3 rfl (HP.cell hH20 0 rfl rfl)) ?_))))));by_cases hlong:y<(xs.length:Int)
    ·
     refine WS.y (.bool true) 31 (x_gtr rfl rfl rfl (dT (hlong))) (WS.nilQ (WQ.then (hK19 _ _ _ (WC.sb [(1,.slice (some ⟨gS,oS,none⟩) S.length cp),(2,vP b2 0),(5,vI (k:Int)),(21,.bool true),(31,.bool true)] ?_))));refine WC.yes rfl ?_;refine WC.seq fun K21 hK21=>?_;have hbad:okR s y (k:Int) ((stX S).getD k [])=false:=(by rw [hr1];exact okR_long (by omega));refine WC.region (WL.z (.bool false) 4 (WL.k hK21 (WC.ret ?_)));refine WQ.thenRet ?_;refine WQ.inRet ?_;refine WQ.thenRet ?_;refine WQ.thenRet ?_;refine WQ.inRet ?_;refine WQ.thenRet ?_;refine WQ.ret1 4 rfl rfl ?_;exact⟨by rw [okSt_bad (by rw [stX_len];omega) hbad],HP.below hH20⟩
    ·
     refine WS.y (.bool false) 31 (x_gtr rfl rfl rfl (dF (hlong))) (WS.nilQ (WQ.then (hK19 _ _ _ (WC.sb [(1,.slice (some ⟨gS,oS,none⟩) S.length cp),(2,vP b2 0),(5,vI (k:Int)),(21,.bool true),(31,.bool false)] ?_))));refine WC.no rfl ?_;refine WC.skip (WQ.then (hK18 _ _ _ (WC.seq fun K22 hK22=>WC.region (WL.z (vI 0) 6 (WL.k hK22 (WC.block ?_))))));refine WC.loop (fun kk0 ll0 ww0=>∃ (i:Nat),ll0=[(1,.slice (some ⟨gS,oS,none⟩) S.length cp),(2,vP b2 0),(5,vI (k:Int)),(6,vI (i:Int))]∧kk0=xs.length-i∧(i≤xs.length)∧(∀ j,j<i→okX s (k:Int) xs j=true)∧HP Tr w ww0 [.cel b2 #[vI s,vI y,vI l,vI m] 23]) (xs.length) [(1,.slice (some ⟨gS,oS,none⟩) S.length cp),(2,vP b2 0),(5,vI (k:Int)),(6,vI 0)] ⟨rfl,rfl,rfl,rfl,trivial⟩ ⟨0,rfl,rfl,Nat.zero_le _,fun j hj=>by omega,hH20⟩ ?_;rintro kk l w24 ⟨i,rfl,hkk,hi,hokj,hH25⟩ K23 hK23;refine WC.seq fun K26 hK26=>WC.seq fun K27 hK27=>WC.region (WL.z (vI (i:Int)) 32 (WL.z (.slice (some ⟨gS,oS,none⟩) S.length cp) 33 (WL.z (vI (k:Int)) 34 (WL.y (vP gS (oS+k)) 35 (x_ix (k) (oS+k) Tryz.underlying33 sz32) (WL.y (.slice q xs.length c) 36 (x_load rfl rfl Tryz.underlying32 rfl ((HP.oldRange hH25 trivial (show w.rangeAt gS (oS+k) [slV ⟨q,xs,c⟩] by have q9:=hrowS k (by omega);rw [hr2] at q9;exact q9)) 0 _ rfl)) (WL.z (vI (xs.length:Int)) 37 ?_))))));by_cases hi2:(i:Int)<(xs.length:Int)
     ·
      refine WL.y (.bool true) 38 (x_lss rfl rfl rfl (dT (hi2))) (WL.k hK27 (WC.sb [(1,.slice (some ⟨gS,oS,none⟩) S.length cp),(2,vP b2 0),(5,vI (k:Int)),(6,vI (i:Int)),(38,.bool true)] ?_));refine WC.yes rfl ?_;refine WC.skip (WQ.then (hK26 _ _ _ (WC.seq fun K28 hK28=>WC.block (WC.seq fun K29 hK29=>?_))));obtain⟨g,o,rfl,hrow⟩:=hI (by omega);refine WC.region (WL.z (.slice (some ⟨gS,oS,none⟩) S.length cp) 41 (WL.z (vI (k:Int)) 42 (WL.y (vP gS (oS+k)) 43 (x_ix (k) (oS+k) Tryz.underlying33 sz32) (WL.y (.slice (some ⟨g,o,none⟩) xs.length c) 44 (x_load rfl rfl Tryz.underlying32 rfl ((HP.oldRange hH25 trivial (show w.rangeAt gS (oS+k) [slV ⟨(some ⟨g,o,none⟩),xs,c⟩] by have q9:=hrowS k (by omega);rw [hr2] at q9;exact q9)) 0 _ rfl)) (WL.z (vI (i:Int)) 45 (WL.y (vP g (o+i)) 46 (x_ix (i) (o+i) Tryz.underlying32 sz3) (WL.y (vI (xs.getD i 0)) 47 (x_load rfl rfl Tryz.underlying3 rfl ((HP.oldRange hH25 trivial (hrow i (by omega))) 0 _ rfl)) (WL.z (vI (xs.getD i 0)) 7 (WL.k hK29 ?_)))))))));refine WC.sb [(1,.slice (some ⟨gS,oS,none⟩) S.length cp),(2,vP b2 0),(5,vI (k:Int)),(6,vI (i:Int)),(7,vI (xs.getD i 0)),(38,.bool true)] (WC.seq fun K30 hK30=>WC.region (WL.z (vI (xs.getD i 0)) 48 ?_));by_cases hlo9:xs.getD i 0<0
      ·
       refine WL.y (.bool true) 49 (x_lss rfl rfl rfl (dT (hlo9))) (WL.z (.bool true) 50 (WL.p 51 (WL.p 52 (WL.z (.bool true) 53 (WL.z (.bool true) 54 (WL.p 55 (WL.p 56 (WL.p 57 (WL.p 58 (WL.p 59 (WL.p 60 ?_)))))))))));refine WL.z (.bool true) 61 (WL.z (.bool true) 62 (WL.p 63 (WL.p 64 (WL.p 65 (WL.p 66 (WL.p 67 (WL.p 68 (WL.p 69 (WL.p 70 (WL.p 71 (WL.z (.bool true) 72 ?_)))))))))));refine WL.k hK30 (WC.sb [(1,.slice (some ⟨gS,oS,none⟩) S.length cp),(2,vP b2 0),(5,vI (k:Int)),(6,vI (i:Int)),(7,vI (xs.getD i 0)),(38,.bool true),(72,.bool true)] ?_);refine WC.yes rfl ?_;refine WC.seq fun K31 hK31=>?_;have hbx:okX s (k:Int) xs i=false:=(by unfold okX;rw [show wn (xs.getD i 0) 0 999=false from wn_no2 (by omega)];rfl);have hbad:okR s y (k:Int) ((stX S).getD k [])=false:=(by rw [hr1];exact okR_bad (by omega) hbx);refine WC.region (WL.z (.bool false) 4 (WL.k hK31 (WC.ret ?_)));refine WQ.inRet ?_;refine WQ.thenRet ?_;refine WQ.thenRet ?_;refine WQ.inRet ?_;refine WQ.inRet ?_;refine WQ.thenRet ?_;refine WQ.thenRet ?_;refine WQ.inRet ?_;refine WQ.thenRet ?_;refine WQ.ret1 4 rfl rfl ?_;exact⟨by rw [okSt_bad (by rw [stX_len];omega) hbad],HP.below hH25⟩
      ·
       refine WL.y (.bool false) 49 (x_lss rfl rfl rfl (dF (hlo9))) (WL.z (.bool false) 50 (WL.z (vI (xs.getD i 0)) 51 ?_));by_cases hhi9:(999:Int)<xs.getD i 0
       ·
        refine WL.y (.bool true) 52 (x_gtr rfl rfl rfl (dT (hhi9))) (WL.z (.bool true) 53 (WL.z (.bool true) 54 (WL.p 55 (WL.p 56 (WL.p 57 (WL.p 58 (WL.p 59 (WL.p 60 (WL.z (.bool true) 61 (WL.z (.bool true) 62 (WL.p 63 ?_)))))))))));refine WL.p 64 (WL.p 65 (WL.p 66 (WL.p 67 (WL.p 68 (WL.p 69 (WL.p 70 (WL.p 71 (WL.z (.bool true) 72 (WL.k hK30 ?_)))))))));refine WC.sb [(1,.slice (some ⟨gS,oS,none⟩) S.length cp),(2,vP b2 0),(5,vI (k:Int)),(6,vI (i:Int)),(7,vI (xs.getD i 0)),(38,.bool true),(72,.bool true)] ?_;refine WC.yes rfl ?_;refine WC.seq fun K32 hK32=>?_;have hbx:okX s (k:Int) xs i=false:=(by unfold okX;rw [show wn (xs.getD i 0) 0 999=false from wn_no2 (by omega)];rfl);have hbad:okR s y (k:Int) ((stX S).getD k [])=false:=(by rw [hr1];exact okR_bad (by omega) hbx);refine WC.region (WL.z (.bool false) 4 (WL.k hK32 (WC.ret ?_)));refine WQ.inRet ?_;refine WQ.thenRet ?_;refine WQ.thenRet ?_;refine WQ.inRet ?_;refine WQ.inRet ?_;refine WQ.thenRet ?_;refine WQ.thenRet ?_;refine WQ.inRet ?_;refine WQ.thenRet ?_;refine WQ.ret1 4 rfl rfl ?_;exact⟨by rw [okSt_bad (by rw [stX_len];omega) hbad],HP.below hH25⟩
       ·
        refine WL.y (.bool false) 52 (x_gtr rfl rfl rfl (dF (hhi9))) (WL.z (.bool false) 53 (WL.z (.bool false) 54 (WL.z (vI (xs.getD i 0)) 55 (WL.z (vP b2 0) 56 (WL.y (vI s) 57 (x_load rfl rfl Tryz.underlying3 rfl (HP.cell hH25 0 rfl rfl)) (WL.y (vI ((xs.getD i 0).tmod s)) 58 (x_rem rfl rfl rfl (by omega) rfl) (WL.z (vI (k:Int)) 59 ?_)))))));by_cases h47:(xs.getD i 0).tmod s≠(k:Int)
        ·
         refine WL.y (.bool true) 60 (x_neq rfl rfl rfl (dT (h47))) (WL.z (.bool true) 61 (WL.z (.bool true) 62 (WL.p 63 (WL.p 64 (WL.p 65 (WL.p 66 (WL.p 67 (WL.p 68 (WL.p 69 (WL.p 70 (WL.p 71 ?_)))))))))));refine WL.z (.bool true) 72 (WL.k hK30 (WC.sb [(1,.slice (some ⟨gS,oS,none⟩) S.length cp),(2,vP b2 0),(5,vI (k:Int)),(6,vI (i:Int)),(7,vI (xs.getD i 0)),(38,.bool true),(72,.bool true)] ?_));refine WC.yes rfl ?_;refine WC.seq fun K33 hK33=>?_;have hbx:okX s (k:Int) xs i=false:=(by unfold okX;rw [show wn (xs.getD i 0) 0 999=true from wn_iff.2 ⟨by omega,by omega⟩,decide_eq_false h47];rfl);have hbad:okR s y (k:Int) ((stX S).getD k [])=false:=(by rw [hr1];exact okR_bad (by omega) hbx);refine WC.region (WL.z (.bool false) 4 (WL.k hK33 (WC.ret ?_)));refine WQ.inRet ?_;refine WQ.thenRet ?_;refine WQ.thenRet ?_;refine WQ.inRet ?_;refine WQ.inRet ?_;refine WQ.thenRet ?_;refine WQ.thenRet ?_;refine WQ.inRet ?_;refine WQ.thenRet ?_;refine WQ.ret1 4 rfl rfl ?_;exact⟨by rw [okSt_bad (by rw [stX_len];omega) hbad],HP.below hH25⟩
        ·
         refine WL.y (.bool false) 60 (x_neq rfl rfl rfl (dF (h47))) (WL.z (.bool false) 61 (WL.z (.bool false) 62 (WL.z (.slice (some ⟨gS,oS,none⟩) S.length cp) 63 (WL.z (vI (k:Int)) 64 (WL.y (vP gS (oS+k)) 65 (x_ix (k) (oS+k) Tryz.underlying33 sz32) (WL.y (.slice (some ⟨g,o,none⟩) xs.length c) 66 (x_load rfl rfl Tryz.underlying32 rfl ((HP.oldRange hH25 trivial (show w.rangeAt gS (oS+k) [slV ⟨(some ⟨g,o,none⟩),xs,c⟩] by have q9:=hrowS k (by omega);rw [hr2] at q9;exact q9)) 0 _ rfl)) (WL.z (vI (i:Int)) 67 (WL.y (.slice (some ⟨g,o,none⟩) i c) 68 (x_sliceH (i) rfl rfl rfl Tryz.underlying32 (by omega) (by omega) sz3) (WL.z (vI (xs.getD i 0)) 69 ?_)))))))));refine WL.c 25 #[.slice (some ⟨g,o,none⟩) i c,vI (xs.getD i 0)] 70 ?_;have q9:=place_any (some ⟨g,o,none⟩) (xs.take i) c _ (take_row (show i≤xs.length by omega) fun j hj=>HP.oldRange hH25 trivial (hrow j hj)) (by simp;omega) (xs.getD i 0);rw [List.length_take_of_le (show i≤xs.length by omega)] at q9;refine q9.mono ?_;rintro e w34 ⟨rfl,hb9⟩;refine⟨_,rfl,?_⟩;have hH35:=HP.call hH25 hb9;by_cases hpl:(0:Int)≤plcV (xs.getD i 0) (xs.take i)
         ·
          refine WL.y (.bool true) 71 (x_geq rfl rfl rfl (dT (hpl))) (WL.z (.bool true) 72 (WL.k hK30 (WC.sb [(1,.slice (some ⟨gS,oS,none⟩) S.length cp),(2,vP b2 0),(5,vI (k:Int)),(6,vI (i:Int)),(7,vI (xs.getD i 0)),(38,.bool true),(72,.bool true)] ?_)));refine WC.yes rfl ?_;refine WC.seq fun K36 hK36=>?_;have hbx:okX s (k:Int) xs i=false:=(by unfold okX;rw [show wn (xs.getD i 0) 0 999=true from wn_iff.2 ⟨by omega,by omega⟩,decide_eq_true (Classical.not_not.1 h47),show (xs.take i).contains (xs.getD i 0)=true from plcV_ge.1 hpl];rfl);have hbad:okR s y (k:Int) ((stX S).getD k [])=false:=(by rw [hr1];exact okR_bad (by omega) hbx);refine WC.region (WL.z (.bool false) 4 (WL.k hK36 (WC.ret ?_)));refine WQ.inRet ?_;refine WQ.thenRet ?_;refine WQ.thenRet ?_;refine WQ.inRet ?_;refine WQ.inRet ?_;refine WQ.thenRet ?_;refine WQ.thenRet ?_;refine WQ.inRet ?_;refine WQ.thenRet ?_;refine WQ.ret1 4 rfl rfl ?_;exact⟨by rw [okSt_bad (by rw [stX_len];omega) hbad],HP.below hH35⟩
         ·
          refine WL.y (.bool false) 71 (x_geq rfl rfl rfl (dF (hpl))) (WL.z (.bool false) 72 (WL.k hK30 (WC.sb [(1,.slice (some ⟨gS,oS,none⟩) S.length cp),(2,vP b2 0),(5,vI (k:Int)),(6,vI (i:Int)),(7,vI (xs.getD i 0)),(38,.bool true),(72,.bool false)] ?_)));refine WC.no rfl ?_;refine WC.skip (WQ.inNormal (WQ.then (hK28 _ _ _ ?_)));have hokx:okX s (k:Int) xs i=true:=(by unfold okX;rw [show wn (xs.getD i 0) 0 999=true from wn_iff.2 ⟨by omega,by omega⟩,decide_eq_true (Classical.not_not.1 h47),show (xs.take i).contains (xs.getD i 0)=false from by cases q:(xs.take i).contains (xs.getD i 0) with | false=>rfl | true=>exact absurd (plcV_ge.2 q) hpl];rfl);refine WC.region (WL.z (vI (i:Int)) 39 (WL.y (vI ((i+1:Nat):Int)) 40 (x_ad (((i+1:Nat):Int))) (WL.z (vI ((i+1:Nat):Int)) 6 (WL.nil (WQ.sb [(1,.slice (some ⟨gS,oS,none⟩) S.length cp),(2,vP b2 0),(5,vI (k:Int)),(6,vI ((i+1:Nat):Int))] ?_)))));refine WQ.then (hK23 _ _ _ (by omega) ⟨i+1,rfl,rfl,by omega,fun j hj=>by
                      by_cases q9:j=i
                      · subst q9;exact hokx
                      · exact hokj j (by omega),hH35⟩)
     ·
      refine WL.y (.bool false) 38 (x_lss rfl rfl rfl (dF (hi2))) (WL.k hK27 (WC.sb [(1,.slice (some ⟨gS,oS,none⟩) S.length cp),(2,vP b2 0),(5,vI (k:Int)),(6,vI (i:Int)),(38,.bool false)] ?_));refine WC.no rfl ?_;refine WC.exit (WQ.thenExit (WQ.thenExit (WQ.inExit (WQ.inNormal (WQ.then (hK17 _ _ _ (WC.region (WL.z (vI (k:Int)) 22 (WL.y (vI ((k+1:Nat):Int)) 23 (x_ad (((k+1:Nat):Int))) (WL.z (vI ((k+1:Nat):Int)) 5 (WL.nil ?_)))))))))));have hrk:okR s y (k:Int) ((stX S).getD k [])=true:=(by rw [hr1];exact okR_iff.2 ⟨by omega,fun j hj=>hokj j (by omega)⟩);refine WQ.sb [(1,.slice (some ⟨gS,oS,none⟩) S.length cp),(2,vP b2 0),(5,vI ((k+1:Nat):Int))] ?_;refine WQ.then (hK12 _ _ _ (by omega) ⟨k+1,rfl,rfl,by omega,fun j hj=>by
              by_cases q9:j=k
              · subst q9;exact hrk
              · exact hok j (by omega),hH25⟩)
   ·
    refine WL.y (.bool false) 21 (x_lss rfl rfl rfl (dF (hlt))) (WL.k hK16 ?_);refine WC.no rfl ?_;refine WC.exit (WQ.thenExit (WQ.thenExit (WQ.inExit (WQ.then (hK10 _ _ _ (WC.seq fun K37 hK37=>WC.region (WL.z (.bool true) 4 (WL.k hK37 ?_))))))));refine WC.ret ?_;refine WQ.ret1 4 rfl rfl ?_;exact⟨by rw [okSt_iff.2 ⟨hg,by rw [stX_len];omega,fun j hj=>hok j (by rw [stX_len] at hj;omega)⟩],HP.below hH14⟩
 ·
  refine WL.c 21 #[.agg #[vI s,vI y,vI l,vI m]] 9 ?_;refine(rValid_any s y l m _).mono ?_;rw [hg];rintro e w38 ⟨rfl,hb9⟩;refine⟨_,rfl,?_⟩;have hH39:=HP.call hH4 hb9;refine WL.z (.bool true) 10 (WL.z (.bool true) 11 (WL.p 12 (WL.p 13 (WL.p 14 (WL.p 15 (WL.p 16 (WL.z (.bool true) 17 (WL.k hK6 (WC.sb [(0,.agg #[vI s,vI y,vI l,vI m]),(1,.slice p S.length cp),(2,vP b2 0),(4,.bool false),(17,.bool true)] ?_)))))))));refine WC.yes rfl ?_;refine WC.seq fun K40 hK40=>WC.region (WL.z (.bool false) 4 (WL.k hK40 (WC.ret ?_)));refine WQ.thenRet ?_;refine WQ.ret1 4 rfl rfl ?_;exact⟨by unfold okSt;rw [hg];rfl,HP.below hH39⟩
end Ca
end Go.Proofs.YtmjnakhpekbenaaGreat
namespace Go.Proofs.YtmjnakhpekbenaaGreat
open Go.RowKit Fw
namespace Ca
theorem infoL:∃ i,Tryz.prog.info? 32=some i∧i.zero=some (.slice none 0 0)∧i.size=1∧i.bytes=24:=by
  obtain⟨i,hi,h⟩:=Option.map_eq_some_iff.1 (show (Tryz.prog.info? 32).map (fun i=>(i.zero,i.size,i.bytes))=some (some (.slice none 0 0),1,24) by kernel_rfl);simp only [Prod.mk.injEq] at h;exact⟨i,hi,h.1,h.2.1,h.2.2⟩
def nilR (n:Nat):Array Value:=madeCells (Value.slice none 0 0).cells (n*1)
theorem makeS2 (n:Nat) (hn:n≤1000) (W:World):(Instr.makeSlice 33 (.int .i64 (n:Int)) (.int .i64 (n:Int))).run Tryz.prog W=.ok (.slice (some ⟨W.heap.size,0,none⟩) n n) (W.alloc (.cells (nilR n) 32)):=by
  obtain⟨i0,hi0,hz0,hz1,hz2⟩:=infoL;have hr:=run_make (P:=Tryz.prog) W 33 32 i0 _ Tryz.underlying33 hi0 hz0 .i64 .i64 (n:Int) (n:Int) (by omega) (by omega) (by rw [hz2];omega) (by omega);rw [hz1] at hr;simpa [nilR] using hr
theorem nilR_at {n j:Nat} (h:j<n):(nilR n)[j]?=some (.slice none 0 0):=by
  simp [nilR,madeCells,h,Value.cells,Nat.mod_one]
abbrev nilS (n:Nat):List SlI:=List.replicate n ⟨none,[],0⟩
theorem nil_in {w0 w:World} {S:Nat→Prop} {H:List Ent} {g n:Nat} (h:HP S w0 w H) (i:Nat) (hi:H[i]?=some (.cel g (nilR n) 32)):InS2 w (some ⟨g,0,none⟩) (nilS n) :=
  ⟨fun h0=>⟨g,0,rfl,fun j hj k v hv=>by
    have hj':j<n:=by simpa using hj
    match k,hv with
    | 0,hv =>
      have e:(nilS n).getD j ⟨none,[],0⟩=⟨none,[],0⟩:=(by simp [nilS,List.getD_eq_getElem?_getD,hj']);rw [e] at hv;simp at hv;subst hv;have:=h.cell i hi (nilR_at hj');show w.cell? ⟨g,0+j+0,none⟩=some (.slice none 0 0);rw [Nat.zero_add,Nat.add_zero];exact this
    | k+1,hv=>simp at hv⟩,fun r hr=>by
    rw [List.eq_of_mem_replicate hr];exact⟨fun h=>absurd h (by simp),Nat.le_refl _,by decide,fun x hx=>by cases hx⟩⟩
end Ca
end Go.Proofs.YtmjnakhpekbenaaGreat
namespace Go.Proofs.YtmjnakhpekbenaaGreat
open Go.RowKit Fw
namespace Ca
abbrev iR (xs:List Int):List Value:=xs.map (Value.int .i64)
abbrev rowI' (pv:Option Addr) (cp:Nat) (xs:List Int):Ent:=.own (.slice pv xs.length cp) xs.length (iR xs) 3 1
theorem hp_own {w w':World} {v:Value} {n e s:Nat} {xs:List Value} (hb:Below w.heap.size w w') (h:w'.ownsRow w.heap.size e s v n xs):HP Tr w w' [.own v n xs e s]:=by
  have q:=HP.of_below (S:=Tr) hb;refine⟨q.os,q.tape,q.output,q.size,q.keep,fun x hx=>?_,fun x hx b hbk hlt=>?_,by simp⟩
  · obtain rfl := List.mem_singleton.1 hx
    refine⟨h.1,?_⟩;rcases h.2 with h | ⟨g,cap,cur,hv,_,hr⟩
    · exact .inl h
    · exact .inr ⟨g,cap,cur,hv,Nat.zero_le _,hr⟩
  · obtain rfl := List.mem_singleton.1 hx
    rcases h.2 with ⟨h,_⟩ | ⟨g,cap,cur,hv,hg,_⟩
    · subst h;cases hbk
    · subst hv;simp only [Ent.blk,Value.ownBlock,Option.some.injEq] at hbk;omega
theorem clone_any (r:SlI) (w:World) (hR:InR w r) (hn:r.xs.length≤1000000) :
    Calls Tryz.prog 81 #[slV r] w fun e w'=>∃ pv cp,e=.returned (.slice pv r.xs.length cp)∧HP Tr w w' [rowI' pv cp r.xs]:=by
  obtain⟨q,xs,c⟩:=r;have hI:InI w q xs:=hR.row;simp only [slV] at hn ⊢;cases q with
  | none =>
    have hx:xs=[]:=by
      cases xs with
      | nil=>rfl
      | cons a r=>obtain⟨g,o,h,_⟩:=hI (by simp);cases h
    subst hx;refine(Tryz.slices_Clone_int_nil 0 c w).mono ?_;rintro e w' ⟨rfl,rfl⟩;exact⟨none,0,rfl,HP.eq (HP.ownNil (HP.refl (S:=Tr) w') 3 1) rfl⟩
  | some a =>
    by_cases h0:xs.length=0
    · have hx : xs = [] := List.length_eq_zero_iff.1 h0
      subst hx;refine(Tryz.slices_Clone_int_zero a c w).mono ?_;rintro e w' ⟨v',rfl,ho,-,hb⟩;have hh:=hp_own hb ho;obtain⟨pv,cp,rfl⟩:=own_row (HP.get hh 0 rfl);exact⟨pv,cp,rfl,hh⟩
    · obtain ⟨g, o, hp, hr⟩ := hI (by omega)
      cases hp;refine(Tryz.slices_Clone_int g o xs.length c xs w (Nat.le_refl _) (by omega) (cells_of hr)).mono ?_;rintro e w' ⟨v',rfl,ho,-,hb⟩;rw [List.take_length] at ho;have hh:=hp_own hb ho;obtain⟨pv,cp,rfl⟩:=own_row (HP.get hh 0 rfl);exact⟨pv,cp,rfl,hh⟩
theorem row_in {w:World} {pv:Option Addr} {cp:Nat} {xs:List Int} (h:Ent.holds w (rowI' pv cp xs)):InI w pv xs:=fun h0=>by
  have h2:w.ownsRow 0 3 1 (.slice pv xs.length cp) xs.length (iR xs):=h;have hc:=@World.ownsRow.cells _ _ _ _ _ _ _ h2;rcases h2.2 with ⟨h0',h1⟩ | ⟨g,cap,cur,hv,hb,hg,hnc,hm,hs,hx⟩
  · omega
  · cases hv
    refine⟨g,0,rfl,fun i hi j v hv=>?_⟩
    match j,hv with
    | 0,hv =>
      simp at hv;subst hv;have:=hc (g:=g) rfl i (vI (xs.getD i 0)) (by simp [iR,List.getD_eq_getElem?_getD,hi]);rw [hadd] at this;simpa using this
    | j+1,hv=>simp at hv
end Ca
end Go.Proofs.YtmjnakhpekbenaaGreat
namespace Go.Proofs.YtmjnakhpekbenaaGreat
open Go.RowKit Fw
namespace Ca
theorem delete_any (pv:Option Addr) (cp:Nat) (xs:List Int) (k:Nat) (w:World) (hB:OwnB w [rowI' pv cp xs]) (hk:k<xs.length) :
    Calls Tryz.prog 83 #[.slice pv xs.length cp,vI (k:Int),vI ((k+1:Nat):Int)] w fun e w'=>e=.returned (.slice pv (xs.eraseIdx k).length cp)∧HP (Out [rowI' pv cp xs]) w w' [rowI' pv cp (xs.eraseIdx k)]:=by
  have hO:=hB.1 _ (List.mem_singleton.2 rfl);have h2:w.ownsRow 0 3 1 (.slice pv xs.length cp) xs.length (iR xs):=hO;have hc:=@World.ownsRow.cells _ _ _ _ _ _ _ h2;rcases h2.2 with ⟨h0',h1⟩ | ⟨g,cap,cur,hv,hb,hg,hnc,hm,hs,hx⟩
  · omega
  · cases hv
    have hlt:=(Array.getElem?_eq_some_iff.1 hg).1;have hH:Go.Sort.Holds (Value.int .i64) w g 0 xs.toArray:=fun j hj=>by
      have hj':j<xs.length:=(by simpa using hj);refine⟨?_,by simp [World.frozen?,hg]⟩;have:=hc (g:=g) rfl j (vI (xs.getD j 0)) (by simp [iR,List.getD_eq_getElem?_getD,hj']);rw [hadd] at this;rw [this];simp [List.getD_eq_getElem?_getD,hj']
    have hle:(xs.eraseIdx k).length=xs.length-1:=List.length_eraseIdx_of_lt hk;refine(Tryz.slices_Delete_int g 0 cp k (k+1) xs w hH hnc hm (by omega) (by omega)).mono ?_;rintro e w' ⟨rfl,q,rfl⟩;refine⟨by rw [hle,show k+1-k=1 by omega],?_⟩;have hheap:(Go.Sort.putRow (Value.int .i64) (Go.Sort.ahead w q) g 0 (xs.take k++xs.drop (k+1)++List.replicate (k+1-k) 0).toArray).heap=w.heap.modify g (Go.Sort.onCells (Go.Sort.putCells (Value.int .i64) 0 (xs.take k++xs.drop (k+1)++List.replicate (k+1-k) 0).toArray)):=rfl;refine⟨rfl,rfl,rfl,by rw [hheap];simp,fun j hj hO=>?_,fun e he=>?_,fun e he b hb' hlt' hO=>?_,by simp⟩
    · have hne : g ≠ j := fun e => hO _ (List.mem_singleton.2 rfl) (by rw [← e]; rfl)
      rw [hheap,Array.getElem?_modify,if_neg hne]
    · obtain rfl := List.mem_singleton.1 he
      refine⟨by simp [iR],.inr ⟨g,cp,Go.Sort.putCells (Value.int .i64) 0 (xs.take k++xs.drop (k+1)++List.replicate (k+1-k) 0).toArray cur,rfl,Nat.zero_le _,?_,by omega,hm,by simp [Go.Sort.putCells,hs],?_⟩⟩
      · rw [hheap,Array.getElem?_modify,if_pos rfl,hg];rfl
      · refine List.ext_getElem? fun j => ?_
        rw [List.getElem?_take,Nat.mul_one];have hE:xs.eraseIdx k=xs.take k++xs.drop (k+1):=List.eraseIdx_eq_take_drop_succ _ _;by_cases hj:j<(xs.eraseIdx k).length
        · rw [if_pos hj, Array.getElem?_toList]
          have hcur:j<cur.size:=(by omega);have hl:j<(xs.take k++xs.drop (k+1)++List.replicate (k+1-k) 0).toArray.size:=(by rw [hE] at hj;simp at hj ⊢;omega);simp only [Go.Sort.putCells,Array.getElem?_mapIdx,Array.getElem?_eq_getElem hcur,Option.map_some,Nat.zero_le,true_and,Nat.zero_add,hl,if_true,Nat.sub_zero];have e1:(xs.take k++xs.drop (k+1)++List.replicate (k+1-k) 0).toArray[j]! =(xs.eraseIdx k)[j]:=by
            have e0:∀ D:List Int,j<D.length→D.toArray[j]! =D.getD j 0:=fun D h=>by simp [List.getD_eq_getElem?_getD,h]
            rw [e0 _ (by simpa using hl),← hE,List.getD_eq_getElem?_getD,List.getElem?_append_left hj,List.getElem?_eq_getElem hj]
            rfl
          rw [e1];simp [iR,hj]
        · rw [if_neg hj,List.getElem?_eq_none (by simp [iR];omega)]
    · obtain rfl := List.mem_singleton.1 he
      exact hO _ (List.mem_singleton.2 rfl) hb'
end Ca
end Go.Proofs.YtmjnakhpekbenaaGreat
namespace Go.Proofs.YtmjnakhpekbenaaGreat
open Go.RowKit Fw
namespace Ca
def sA (S:List SlI):Array Value:=(S.map fun r=>slV r).toArray
theorem sA_at {S:List SlI} {k:Nat} {r:SlI} (h:S[k]?=some r):(sA S)[k]?=some (slV r):=by simp [sA,h]
theorem sA_set {S:List SlI} {k:Nat} {r:SlI}:(sA S).setIfInBounds k (slV r)=sA (S.set k r):=by
  apply Array.ext';simp [sA,List.map_set]
theorem sA_size (S:List SlI):(sA S).size=S.length:=by simp [sA]
theorem not_outer {w:World} {g:Nat} {S:List SlI} {q:Option Addr} {xs:List Int} (hO:w.heap[g]?=some (.cells (sA S) 32 (0,0))) {b o:Nat} (hq:q=some ⟨b,o,none⟩) (h0:0<xs.length) (hr:∀ i,i<xs.length→w.rangeAt b (o+i) [vI (xs.getD i 0)]):b≠g:=fun e=>by
  subst e;have:=hr 0 h0 0 _ rfl;rw [cell_of_row w b _ _ 32 (0,0) hO] at this;simp only [sA,List.getElem?_toArray,List.getElem?_map] at this;cases hx:S[o+0+0]? with
  | none=>rw [hx] at this;simp at this
  | some r=>rw [hx] at this;simp at this
theorem InI.keep {w w':World} {g:Nat} {S:List SlI} {H:List Ent} {q:Option Addr} {xs:List Int} (h:InI w q xs) (hO:w.heap[g]?=some (.cells (sA S) 32 (0,0))) (hp:HP (Out [.cel g (sA S) 32]) w w' H):InI w' q xs:=fun h0=>by
  obtain⟨b,o,hq,hr⟩:=h h0;have hne:=not_outer hO hq h0 hr;refine⟨b,o,hq,fun i hi=>HP.oldRange hp (fun e he=>?_) (hr i hi)⟩;obtain rfl:=List.mem_singleton.1 he;exact fun q=>hne (Option.some.inj q).symm
theorem InR.keep {w w':World} {g:Nat} {S:List SlI} {H:List Ent} {r:SlI} (h:InR w r) (hO:w.heap[g]?=some (.cells (sA S) 32 (0,0))) (hp:HP (Out [.cel g (sA S) 32]) w w' H):InR w' r:=⟨InI.keep h.row hO hp,h.hc,h.hm,h.hw⟩
theorem index_any (r:SlI) (x:Int) (w:World) (hR:InR w r) (hn:r.xs.length≤1000000) :
    Calls Tryz.prog 82 #[slV r,vI x] w fun e w'=>e=.returned (.int .i64 (Lib.idxOf r.xs x))∧w=w':=by
  obtain⟨q,xs,c⟩:=r;have hI:InI w q xs:=hR.row;simp only [slV] at hn ⊢;by_cases h0:xs.length=0
  · have hx : xs = [] := List.length_eq_zero_iff.1 h0
    subst hx;exact(Tryz.slices_Index_int_empty q c x w).mono fun e w' h=>⟨h.1,h.2.symm⟩
  · obtain ⟨g, o, rfl, hr⟩ := hI (by omega)
    refine(Tryz.slices_Index_int g o xs.length c xs x w (Nat.le_refl _) (by omega) (cells_of hr)).mono fun e w' h=>⟨?_,h.2.symm⟩;rw [h.1,List.take_length]
end Ca
end Go.Proofs.YtmjnakhpekbenaaGreat
namespace Go.Proofs.YtmjnakhpekbenaaGreat
set_option maxRecDepth 20000
set_option maxHeartbeats 4000000
open Go.RowKit Fw
namespace Ca
def tcX (y x:Int) (xs:List Int):List Int:=x::(if 0≤Lib.idxOf xs x then xs.eraseIdx (Lib.idxOf xs x).toNat else if (xs.length:Int)=y then xs.take (xs.length-1) else xs)
theorem infoI:∃ i,Tryz.prog.info? 3=some i∧i.zero=some (.int .i64 0)∧i.size=1∧i.bytes=8:=by
  obtain⟨i,hi,h⟩:=Option.map_eq_some_iff.1 (show (Tryz.prog.info? 3).map (fun i=>(i.zero,i.size,i.bytes))=some (some (.int .i64 0),1,8) by kernel_rfl);simp only [Prod.mk.injEq] at h;exact⟨i,hi,h.1,h.2.1,h.2.2⟩
theorem plc_spec (x:Int):∀ xs:List Int,(plc x xs=none∧∀ i,i<xs.length→xs.getD i 0≠x)∨(∃ k,plc x xs=some k∧k<xs.length∧xs.getD k 0=x∧∀ j,j<k→xs.getD j 0≠x)
  | []=>.inl ⟨rfl,fun i hi=>by simp at hi⟩
  | a::r=>by
    by_cases h:a=x
    · exact .inr ⟨0,by simp only [plc];rw [if_pos h],by simp,by simpa using h,fun j hj=>by omega⟩
    · rcases plc_spec x r with ⟨h1, h2⟩ | ⟨k, h1, h2, h3, h4⟩
      · refine .inl ⟨by simp only [plc]; rw [if_neg h, h1]; rfl, fun i hi => ?_⟩
        match i,hi with
        | 0,_=>simpa using h
        | i+1,hi=>have:=h2 i (by simpa using hi);simpa using this
      · refine .inr ⟨k + 1, by simp only [plc]; rw [if_neg h, h1]; rfl, by simpa using h2, by simpa using h3, fun j hj => ?_⟩
        match j,hj with
        | 0,_=>simpa using h
        | j+1,hj=>have:=h4 j (by omega);simpa using this
theorem idx_plc (x:Int) (xs:List Int):Lib.idxOf xs x=plcV x xs:=by
  unfold plcV;rcases plc_spec x xs with ⟨h1,h2⟩ | ⟨k,h1,h2,h3,h4⟩
  · rw [h1];have:=Lib.idxOf_miss xs xs.length x h2;rwa [List.take_length] at this
  · rw [h1];have:=Lib.idxOf_hit xs xs.length k x h2 (Nat.le_refl _) h3 h4;rwa [List.take_length] at this
theorem idx_lt {x:Int} {xs:List Int} (h:0≤Lib.idxOf xs x):(Lib.idxOf xs x).toNat<xs.length:=by
  rw [idx_plc] at h ⊢;unfold plcV at h ⊢;rcases plc_spec x xs with ⟨h1,h2⟩ | ⟨k,h1,h2,h3,h4⟩
  · rw [h1] at h;simp at h
  · rw [h1];simpa using h2
theorem src_of {w:World} {p:Option Addr} {xs ys:List Int} {c:Nat} (h:InI w p xs) (hy:ys=xs.take ys.length) (hc:p=none→c=0):(∃ a,p=some a∧∀ q u,(iR ys)[q]?=some u→w.cell? (a.add q)=some u)∨(p=none∧ys.length=0∧c=0):=by
  have hle:ys.length≤xs.length:=(by have:=congrArg List.length hy;rw [List.length_take] at this;omega);by_cases h0:xs.length=0
  · cases p with
    | none=>exact .inr ⟨rfl,by omega,hc rfl⟩
    | some a =>
      refine .inl ⟨a,rfl,fun q u hu=>?_⟩;have:=(List.getElem?_eq_some_iff.1 hu).1;simp at this;omega
  · obtain ⟨g, o, rfl, hr⟩ := h (by omega)
    refine .inl ⟨_,rfl,fun q u hu=>?_⟩;have hq:q<ys.length:=(by have:=(List.getElem?_eq_some_iff.1 hu).1;simpa using this);have:=hr q (by omega) 0 _ rfl;rw [hadd];have e:u=vI (xs.getD q 0):=by
      rw [hy] at hu;have h9:q<xs.length:=(by omega);simp [iR,List.getElem?_take,hq,h9] at hu;rw [← hu];simp [List.getD_eq_getElem?_getD,h9]
    rw [e];simpa using this
theorem own_nil {w:World} {cp n e s:Nat} {xs:List Value} (h:Ent.holds w (.own (.slice none n cp) n xs e s)):cp=0:=by
  have h2:w.ownsRow 0 e s (.slice none n cp) n xs:=h;rcases h2.2 with ⟨h0,_⟩ | ⟨g,cap,cur,hv,_⟩
  · cases h0;rfl
  · cases hv
theorem touch_any (g n0 cp0:Nat) (S:List SlI) (s y l m a:Int) (k:Nat) (q:Option Addr) (xs:List Int) (c:Nat) (w:World) (hB:OwnB w [.cel g (sA S) 32]) (hs:1≤s∧s≤8) (hl:1≤l∧l≤8) (ha:0≤a∧a≤999) (hy:1≤y∧y≤4) (hk:(a/l).tmod s=(k:Int)) (hkS:S[k]?=some ⟨q,xs,c⟩) (hR:InR w ⟨q,xs,c⟩) (hq0:q=none→c=0) (hn:xs.length≤1000000) (hSn:S.length=n0) :
  Calls Tryz.prog 56 #[.agg #[vI s,vI y,vI l,vI m],vS g n0 cp0,vI a] w fun e w'=>∃ pv cp,e=.returned (.bool (decide (0≤Lib.idxOf xs (a/l))))∧HP (Out [.cel g (sA S) 32]) w w' [.cel g (sA (S.set k ⟨pv,tcX y (a/l) xs,cp⟩)) 32,rowI' pv cp (tcX y (a/l) xs)]:=by
 have hO:w.heap[g]?=some (.cells (sA S) 32 (0,0)):=hB.1 _ (List.mem_singleton.2 rfl);have hkl:k<n0:=(by rw [← hSn];exact(List.getElem?_eq_some_iff.1 hkS).1);refine calls_of Tryz.func56 rfl (m:=58) rfl [(0,.agg #[vI s,vI y,vI l,vI m]),(1,vS g n0 cp0),(2,vI a)] (Fr_enter [.agg #[vI s,vI y,vI l,vI m],vS g n0 cp0,vI a] 58 (Nat.le_of_ble_eq_true rfl)) ?_;refine WC.seq fun K1 hK1=>WC.region ?_;refine WL.alloc (c:=#[vI s,vI y,vI l,vI m]) (T:=23) (HP.startB hB) 3 rfl (by decide) rfl rfl (fun b3=>vP b3 0) (by kernel_rfl) (fun b3 w2 hw2=>?_);have hH3:HP (Out [.cel g (sA S) 32]) w w2 [.cel g (sA S) 32,.cel b3 #[vI s,vI y,vI l,vI m] 23]:=hw2.2;have nb3:=hw2.1;clear hw2;refine WL.z (.bool false) 6 (WL.k hK1 (WC.seq fun K4 hK4=>WC.region (WL.z (vI a) 11 (WL.z (vP b3 2) 12 (WL.y (vI l) 13 (x_load rfl rfl Tryz.underlying3 rfl (HP.cell hH3 1 rfl rfl)) (WL.y (vI (a/l)) 14 (x_quo rfl rfl rfl (by omega) (tdiv_pos (by omega) (by omega)) (by have:=Int.ediv_nonneg (show 0≤a by omega) (show 0≤l by omega);omega) (by have:=Int.ediv_le_self l (show 0≤a by omega);omega)) (WL.z (vI (a/l)) 7 (WL.nil ?_))))))));refine WQ.then (hK4 _ _ _ (WC.seq fun K5 hK5=>WC.region (WL.z (vI (a/l)) 15 (WL.z (vP b3 0) 16 (WL.y (vI s) 17 (x_load rfl rfl Tryz.underlying3 rfl (HP.cell hH3 1 rfl rfl)) (WL.y (vI (k:Int)) 18 (x_rem rfl rfl rfl (by omega) hk) (WL.z (vI (k:Int)) 8 (WL.k hK5 ?_))))))));refine WC.sb [(0,.agg #[vI s,vI y,vI l,vI m]),(1,vS g n0 cp0),(2,vI a),(3,vP b3 0),(6,.bool false),(7,vI (a/l)),(8,vI (k:Int))] (WC.seq fun K6 hK6=>WC.region (WL.z (vS g n0 cp0) 19 (WL.z (vI (k:Int)) 20 (WL.y (vP g k) 21 (x_ix (k) (k) Tryz.underlying33 sz32) (WL.y (.slice q xs.length c) 22 (x_load rfl rfl Tryz.underlying32 rfl (HP.cell hH3 0 rfl (sA_at hkS))) (WL.z (vI (a/l)) 23 ?_))))));refine WL.c 82 #[.slice q xs.length c,vI (a/l)] 24 ?_
 refine(index_any ⟨q,xs,c⟩ (a/l) _ (hR.keep hO hH3) hn).mono ?_;rintro e w7 ⟨rfl,rfl⟩;refine⟨_,rfl,?_⟩;refine WL.z (vI (Lib.idxOf xs (a/l))) 9 (WL.k hK6 (WC.sb [(0,.agg #[vI s,vI y,vI l,vI m]),(1,vS g n0 cp0),(2,vI a),(3,vP b3 0),(6,.bool false),(7,vI (a/l)),(8,vI (k:Int)),(9,vI (Lib.idxOf xs (a/l)))] (WC.seq fun K8 hK8=>WC.region (WL.z (vS g n0 cp0) 25 (WL.z (vI (k:Int)) 26 (WL.y (vP g k) 27 (x_ix (k) (k) Tryz.underlying33 sz32) (WL.y (.slice q xs.length c) 28 (x_load rfl rfl Tryz.underlying32 rfl (HP.cell hH3 0 rfl (sA_at hkS))) (WL.z (.slice q xs.length c) 10 ?_))))))));refine WL.k hK8 (WC.seq fun K9 hK9=>WC.block (WC.seq fun K10 hK10=>WC.region (WL.z (vI (Lib.idxOf xs (a/l))) 30 ?_)));by_cases h0:(0:Int)≤Lib.idxOf xs (a/l)
 ·
  obtain⟨k9,hk9⟩:∃ k9:Nat,Lib.idxOf xs (a/l)=(k9:Int):=⟨_,(Int.toNat_of_nonneg h0).symm⟩;have hk9l:k9<xs.length:=(by have:=idx_lt h0;omega);rw [hk9] at h0;rw [hk9];refine WL.y (.bool true) 31 (x_geq rfl rfl rfl (dT (h0))) (WL.z (.bool true) 29 (WL.k hK10 (WC.sb [(0,.agg #[vI s,vI y,vI l,vI m]),(1,vS g n0 cp0),(2,vI a),(3,vP b3 0),(6,.bool false),(7,vI (a/l)),(8,vI (k:Int)),(9,vI (k9:Int)),(10,.slice q xs.length c),(29,.bool true)] ?_)));refine WC.yes rfl ?_;refine WC.region (WL.z (.slice q xs.length c) 32 ?_);refine WL.c 81 #[.slice q xs.length c] 33 ?_;refine(clone_any ⟨q,xs,c⟩ _ (hR.keep hO hH3) hn).mono ?_;rintro e w11 ⟨pv,cp,rfl,hb12⟩;refine⟨_,rfl,?_⟩;have hH13:HP (Out [.cel g (sA S) 32]) w _ [.cel g (sA S) 32,.cel b3 #[vI s,vI y,vI l,vI m] 23,rowI' pv cp xs]:=HP.trans hH3 hb12;refine WL.z (vI (k9:Int)) 34 (WL.z (vI (k9:Int)) 35 (WL.y (vI ((k9+1:Nat):Int)) 36 (x_ad (((k9+1:Nat):Int))) ?_));refine WL.c 83 #[.slice pv xs.length cp,vI (k9:Int),vI ((k9+1:Nat):Int)] 37 ?_;refine(delete_any pv cp xs k9 _ (HP.ownB (A:=[Go.Proofs.YtmjnakhpekbenaaGreat.Fw.Ent.cel g (sA S) 32,Go.Proofs.YtmjnakhpekbenaaGreat.Fw.Ent.cel b3 #[vI s,vI y,vI l,vI m] 23]) hH13) hk9l).mono ?_;rintro e w6 ⟨rfl,hb6⟩;refine⟨_,rfl,?_⟩;have hH14:HP (Out [.cel g (sA S) 32]) w _ [.cel g (sA S) 32,.cel b3 #[vI s,vI y,vI l,vI m] 23,rowI' pv cp (xs.eraseIdx k9)]:=HP.exch (A:=[Go.Proofs.YtmjnakhpekbenaaGreat.Fw.Ent.cel g (sA S) 32,Go.Proofs.YtmjnakhpekbenaaGreat.Fw.Ent.cel b3 #[vI s,vI y,vI l,vI m] 23]) hH13 hb6;refine WL.z (.slice pv ((xs.eraseIdx k9).length) cp) 10 (WL.nil (WQ.inNormal (WQ.then (hK9 _ _ _ (WC.sb [(0,.agg #[vI s,vI y,vI l,vI m]),(1,vS g n0 cp0),(2,vI a),(3,vP b3 0),(6,.bool false),(7,vI (a/l)),(8,vI (k:Int)),(9,vI (k9:Int)),(10,.slice pv ((xs.eraseIdx k9).length) cp),(29,.bool true)] (WC.seq fun K15 hK15=>WC.region (WL.z (vS g n0 cp0) 49 (WL.z (vI (k:Int)) 50 (WL.z (vI (a/l)) 51 ?_)))))))))
  refine WL.alloc (c:=#[vI (a/l)]) (T:=3) hH14 52 rfl (by decide) rfl rfl (fun b52=>vS b52 1 1) (by kernel_rfl) (fun b52 w16 hw16=>?_);have hH17:HP (Out [.cel g (sA S) 32]) w w16 [.cel g (sA S) 32,.cel b3 #[vI s,vI y,vI l,vI m] 23,rowI' pv cp (xs.eraseIdx k9),.cel b52 #[vI (a/l)] 3]:=hw16.2;have nb52:=hw16.1;clear hw16;refine WL.z (.slice pv ((xs.eraseIdx k9).length) cp) 53 ?_;have hO9:=HP.celToOwn hH17 3 (k:=1) (cap:=1) (s:=1) rfl (Nat.le_refl _) (by decide) rfl;have hH18:HP (Out [.cel g (sA S) 32]) w _ [.cel g (sA S) 32,.cel b3 #[vI s,vI y,vI l,vI m] 23,rowI' pv cp (xs.eraseIdx k9),.own (.slice (some ⟨b52,0,none⟩) 1 1) 1 [vI (a/l)] 3 1]:=HP.eq hO9 rfl;obtain⟨i0,hi0,hz0,hz1,hz2⟩:=infoI;have hyl:(xs.eraseIdx k9).length≤xs.length:=(by first | exact Nat.le_refl _ | (rw [List.length_eraseIdx_of_lt hk9l];omega) | (rw [List.length_take];omega));refine WL.appendSrc (iR (xs.eraseIdx k9)) 3 hH18 54 rfl (by decide) rfl rfl rfl rfl Tryz.underlying32 hi0 hz0 hz1 hz2 rfl (by decide) rfl (src_of (row_in (HP.get hH18 2 rfl)) (by rw [List.take_length]) (fun h=>by subst h;exact own_nil (HP.get hH18 2 rfl))) (by simp) (fun u hu=>by obtain⟨x9,_,rfl⟩:=List.mem_map.1 hu;rfl) (by unfold maxLen;omega) (by omega) ?_;rintro v7 w7-hA7;obtain⟨pv7,cp7,rfl⟩:=own_row (HP.get hA7 3 rfl);have e7:1+(xs.eraseIdx k9).length=(a/l::(xs.eraseIdx k9)).length:=(by simp;omega);rw [e7] at hA7 ⊢;have hH19:HP (Out [.cel g (sA S) 32]) w _ [.cel g (sA S) 32,.cel b3 #[vI s,vI y,vI l,vI m] 23,rowI' pv cp (xs.eraseIdx k9),rowI' pv7 cp7 (a/l::(xs.eraseIdx k9))]:=HP.eq hA7 rfl;refine WL.y (vP g k) 55 (x_ix (k) (k) Tryz.underlying33 sz32) ?_;refine WL.store (c':=sA (S.set k ⟨pv7,(a/l::(xs.eraseIdx k9)),cp7⟩)) (H2:=_) 0 hH19 rfl rfl rfl rfl rfl rfl sz32 rfl (by rw [sA_size];exact(List.getElem?_eq_some_iff.1 hkS).1) (sA_set (r:=⟨pv7,(a/l::(xs.eraseIdx k9)),cp7⟩)) rfl ?_
  intro w8 hB8;have hH20:HP (Out [.cel g (sA S) 32]) w _ [.cel g (sA (S.set k ⟨pv7,(a/l::(xs.eraseIdx k9)),cp7⟩)) 32,.cel b3 #[vI s,vI y,vI l,vI m] 23,rowI' pv cp (xs.eraseIdx k9),rowI' pv7 cp7 (a/l::(xs.eraseIdx k9))]:=hB8;refine WL.k hK15 (WC.sb [(0,.agg #[vI s,vI y,vI l,vI m]),(1,vS g n0 cp0),(2,vI a),(3,vP b3 0),(6,.bool false),(7,vI (a/l)),(8,vI (k:Int)),(9,vI (k9:Int)),(10,.slice pv ((xs.eraseIdx k9).length) cp),(29,.bool true)] (WC.seq fun K21 hK21=>WC.region (WL.z (vI (k9:Int)) 56 (WL.y (.bool true) 57 (x_geq rfl rfl rfl (dT (by omega))) (WL.z (.bool true) 6 (WL.k hK21 ?_))))));refine WC.ret ?_;refine WQ.ret1 6 rfl rfl ?_;have e9:tcX y (a/l) xs=(a/l::(xs.eraseIdx k9)):=(by unfold tcX;rw [hk9,if_pos (by omega),Int.toNat_natCast]);exact⟨pv7,cp7,by rw [hk9,decide_eq_true (by omega)],by rw [e9];exact(HP.drop (HP.drop hH20 2) 1)⟩
 ·
  refine WL.y (.bool false) 31 (x_geq rfl rfl rfl (dF (h0))) (WL.z (.bool false) 29 (WL.k hK10 (WC.sb [(0,.agg #[vI s,vI y,vI l,vI m]),(1,vS g n0 cp0),(2,vI a),(3,vP b3 0),(6,.bool false),(7,vI (a/l)),(8,vI (k:Int)),(9,vI (Lib.idxOf xs (a/l))),(10,.slice q xs.length c),(29,.bool false)] ?_)));refine WC.no rfl ?_;refine WC.seq fun K22 hK22=>WC.region (WL.z (.slice q xs.length c) 39 (WL.z (vI (xs.length:Int)) 40 (WL.z (vP b3 1) 41 (WL.y (vI y) 42 (x_load rfl rfl Tryz.underlying3 rfl (HP.cell hH3 1 rfl rfl)) ?_))));by_cases hfull:(xs.length:Int)=y
  ·
   refine WL.y (.bool true) 43 (x_eql rfl rfl rfl (dT (hfull))) (WL.z (.bool true) 38 (WL.k hK22 ?_));refine WC.yes rfl ?_;refine WC.region (WL.z (.slice q xs.length c) 44 (WL.z (.slice q xs.length c) 45 (WL.z (vI (xs.length:Int)) 46 (WL.y (vI ((xs.length-1:Nat):Int)) 47 (x_sub (Z:=((xs.length-1:Nat):Int)) rfl rfl rfl (by omega) (by omega) (by omega)) (WL.y (.slice q ((xs.take (xs.length-1)).length) c) 48 (by rw [List.length_take_of_le (Nat.sub_le _ _)];exact x_sliceH (xs.length-1) rfl rfl rfl Tryz.underlying32 (by omega) (by have:=hR.hc;simp only [] at this;omega) sz3) (WL.z (.slice q ((xs.take (xs.length-1)).length) c) 10 (WL.nil (WQ.inNormal (WQ.then (hK9 _ _ _ (WC.sb [(0,.agg #[vI s,vI y,vI l,vI m]),(1,vS g n0 cp0),(2,vI a),(3,vP b3 0),(6,.bool false),(7,vI (a/l)),(8,vI (k:Int)),(9,vI (Lib.idxOf xs (a/l))),(10,.slice q ((xs.take (xs.length-1)).length) c),(29,.bool false),(38,.bool true)] ?_)))))))))));refine WC.seq fun K23 hK23=>WC.region (WL.z (vS g n0 cp0) 49 (WL.z (vI (k:Int)) 50 (WL.z (vI (a/l)) 51 ?_)));refine WL.alloc (c:=#[vI (a/l)]) (T:=3) hH3 52 rfl (by decide) rfl rfl (fun b52=>vS b52 1 1) (by kernel_rfl) (fun b52 w24 hw24=>?_);have hH25:HP (Out [.cel g (sA S) 32]) w w24 [.cel g (sA S) 32,.cel b3 #[vI s,vI y,vI l,vI m] 23,.cel b52 #[vI (a/l)] 3]:=hw24.2;have nb52:=hw24.1;clear hw24;refine WL.z (.slice q ((xs.take (xs.length-1)).length) c) 53 ?_;have hO9:=HP.celToOwn hH25 2 (k:=1) (cap:=1) (s:=1) rfl (Nat.le_refl _) (by decide) rfl;have hH26:HP (Out [.cel g (sA S) 32]) w _ [.cel g (sA S) 32,.cel b3 #[vI s,vI y,vI l,vI m] 23,.own (.slice (some ⟨b52,0,none⟩) 1 1) 1 [vI (a/l)] 3 1]:=HP.eq hO9 rfl;obtain⟨i0,hi0,hz0,hz1,hz2⟩:=infoI;have hyl:(xs.take (xs.length-1)).length≤xs.length:=by first | exact Nat.le_refl _ | (rw [List.length_eraseIdx_of_lt hk9l];omega) | (rw [List.length_take];omega)
   refine WL.appendSrc (iR (xs.take (xs.length-1))) 2 hH26 54 rfl (by decide) rfl rfl rfl rfl Tryz.underlying32 hi0 hz0 hz1 hz2 rfl (by decide) rfl (src_of (InI.keep hR.row hO hH26) (by rw [List.length_take_of_le (Nat.sub_le _ _)]) hq0) (by simp) (fun u hu=>by obtain⟨x9,_,rfl⟩:=List.mem_map.1 hu;rfl) (by unfold maxLen;omega) (by omega) ?_;rintro v7 w7-hA7;obtain⟨pv7,cp7,rfl⟩:=own_row (HP.get hA7 2 rfl);have e7:1+(xs.take (xs.length-1)).length=(a/l::(xs.take (xs.length-1))).length:=(by simp;omega);rw [e7] at hA7 ⊢;have hH27:HP (Out [.cel g (sA S) 32]) w _ [.cel g (sA S) 32,.cel b3 #[vI s,vI y,vI l,vI m] 23,rowI' pv7 cp7 (a/l::(xs.take (xs.length-1)))]:=HP.eq hA7 rfl;refine WL.y (vP g k) 55 (x_ix (k) (k) Tryz.underlying33 sz32) ?_;refine WL.store (c':=sA (S.set k ⟨pv7,(a/l::(xs.take (xs.length-1))),cp7⟩)) (H2:=_) 0 hH27 rfl rfl rfl rfl rfl rfl sz32 rfl (by rw [sA_size];exact(List.getElem?_eq_some_iff.1 hkS).1) (sA_set (r:=⟨pv7,(a/l::(xs.take (xs.length-1))),cp7⟩)) rfl ?_;intro w8 hB8;have hH28:HP (Out [.cel g (sA S) 32]) w _ [.cel g (sA (S.set k ⟨pv7,(a/l::(xs.take (xs.length-1))),cp7⟩)) 32,.cel b3 #[vI s,vI y,vI l,vI m] 23,rowI' pv7 cp7 (a/l::(xs.take (xs.length-1)))]:=hB8;refine WL.k hK23 (WC.sb [(0,.agg #[vI s,vI y,vI l,vI m]),(1,vS g n0 cp0),(2,vI a),(3,vP b3 0),(6,.bool false),(7,vI (a/l)),(8,vI (k:Int)),(9,vI (Lib.idxOf xs (a/l))),(10,.slice q ((xs.take (xs.length-1)).length) c),(29,.bool false),(38,.bool true)] (WC.seq fun K29 hK29=>WC.region (WL.z (vI (Lib.idxOf xs (a/l))) 56 (WL.y (.bool false) 57 (x_geq rfl rfl rfl (dF (h0))) (WL.z (.bool false) 6 (WL.k hK29 ?_))))));refine WC.ret ?_;refine WQ.ret1 6 rfl rfl ?_;have e9:tcX y (a/l) xs=(a/l::(xs.take (xs.length-1))):=(by unfold tcX;rw [if_neg h0,if_pos (by omega)]);exact⟨pv7,cp7,by rw [decide_eq_false h0],by rw [e9];exact(HP.drop hH28 1)⟩
  ·
   refine WL.y (.bool false) 43 (x_eql rfl rfl rfl (dF (hfull))) (WL.z (.bool false) 38 (WL.k hK22 ?_));refine WC.no rfl ?_;refine WC.skip (WQ.inNormal (WQ.then (hK9 _ _ _ (WC.seq fun K30 hK30=>WC.region (WL.z (vS g n0 cp0) 49 (WL.z (vI (k:Int)) 50 (WL.z (vI (a/l)) 51 ?_)))))));refine WL.alloc (c:=#[vI (a/l)]) (T:=3) hH3 52 rfl (by decide) rfl rfl (fun b52=>vS b52 1 1) (by kernel_rfl) (fun b52 w31 hw31=>?_);have hH32:HP (Out [.cel g (sA S) 32]) w w31 [.cel g (sA S) 32,.cel b3 #[vI s,vI y,vI l,vI m] 23,.cel b52 #[vI (a/l)] 3]:=hw31.2;have nb52:=hw31.1;clear hw31;refine WL.z (.slice q xs.length c) 53 ?_;have hO9:=HP.celToOwn hH32 2 (k:=1) (cap:=1) (s:=1) rfl (Nat.le_refl _) (by decide) rfl;have hH33:HP (Out [.cel g (sA S) 32]) w _ [.cel g (sA S) 32,.cel b3 #[vI s,vI y,vI l,vI m] 23,.own (.slice (some ⟨b52,0,none⟩) 1 1) 1 [vI (a/l)] 3 1]:=HP.eq hO9 rfl;obtain⟨i0,hi0,hz0,hz1,hz2⟩:=infoI;have hyl:xs.length≤xs.length:=(by first | exact Nat.le_refl _ | (rw [List.length_eraseIdx_of_lt hk9l];omega) | (rw [List.length_take];omega));refine WL.appendSrc (iR xs) 2 hH33 54 rfl (by decide) rfl rfl rfl rfl Tryz.underlying32 hi0 hz0 hz1 hz2 rfl (by decide) rfl (src_of (InI.keep hR.row hO hH33) (by rw [List.take_length]) hq0) (by simp) (fun u hu=>by obtain⟨x9,_,rfl⟩:=List.mem_map.1 hu;rfl) (by unfold maxLen;omega) (by omega) ?_;rintro v7 w7-hA7;obtain⟨pv7,cp7,rfl⟩:=own_row (HP.get hA7 2 rfl);have e7:1+xs.length=(a/l::xs).length:=(by simp;omega);rw [e7] at hA7 ⊢;have hH34:HP (Out [.cel g (sA S) 32]) w _ [.cel g (sA S) 32,.cel b3 #[vI s,vI y,vI l,vI m] 23,rowI' pv7 cp7 (a/l::xs)]:=HP.eq hA7 rfl;refine WL.y (vP g k) 55 (x_ix (k) (k) Tryz.underlying33 sz32) ?_;refine WL.store (c':=sA (S.set k ⟨pv7,(a/l::xs),cp7⟩)) (H2:=_) 0 hH34 rfl rfl rfl rfl rfl rfl sz32 rfl (by rw [sA_size];exact(List.getElem?_eq_some_iff.1 hkS).1) (sA_set (r:=⟨pv7,(a/l::xs),cp7⟩)) rfl ?_
   intro w8 hB8;have hH35:HP (Out [.cel g (sA S) 32]) w _ [.cel g (sA (S.set k ⟨pv7,(a/l::xs),cp7⟩)) 32,.cel b3 #[vI s,vI y,vI l,vI m] 23,rowI' pv7 cp7 (a/l::xs)]:=hB8;refine WL.k hK30 (WC.sb [(0,.agg #[vI s,vI y,vI l,vI m]),(1,vS g n0 cp0),(2,vI a),(3,vP b3 0),(6,.bool false),(7,vI (a/l)),(8,vI (k:Int)),(9,vI (Lib.idxOf xs (a/l))),(10,.slice q xs.length c),(29,.bool false),(38,.bool false)] (WC.seq fun K36 hK36=>WC.region (WL.z (vI (Lib.idxOf xs (a/l))) 56 (WL.y (.bool false) 57 (x_geq rfl rfl rfl (dF (h0))) (WL.z (.bool false) 6 (WL.k hK36 ?_))))));refine WC.ret ?_;refine WQ.ret1 6 rfl rfl ?_;have e9:tcX y (a/l) xs=(a/l::xs):=(by unfold tcX;rw [if_neg h0,if_neg (by omega)]);exact⟨pv7,cp7,by rw [decide_eq_false h0],by rw [e9];exact(HP.drop hH35 1)⟩
end Ca
end Go.Proofs.YtmjnakhpekbenaaGreat
namespace Go.Proofs.YtmjnakhpekbenaaGreat
set_option maxRecDepth 20000
set_option maxHeartbeats 4000000
open Go.RowKit Fw
namespace Ca
def Rows (w:World) (S:List SlI):Prop:=∀ r∈S,InR w r∧(r.q=none→r.c=0)
theorem Rows.keep {w w':World} {g:Nat} {S:List SlI} {H:List Ent} (h:Rows w S) (hO:w.heap[g]?=some (.cells (sA S) 32 (0,0))) (hp:HP (Out [.cel g (sA S) 32]) w w' H):Rows w' S:=fun r hr=>⟨(h r hr).1.keep hO hp,(h r hr).2⟩
theorem Rows.set {w:World} {S:List SlI} {r:SlI} {k:Nat} (h:Rows w S) (hr:InR w r∧(r.q=none→r.c=0)):Rows w (S.set k r):=fun x hx=>by
  rcases List.mem_or_eq_of_mem_set hx with h1 | rfl
  · exact h x h1
  · exact hr
theorem row_InR {w:World} {pv:Option Addr} {cp:Nat} {xs:List Int} (h:Ent.holds w (rowI' pv cp xs)) (hw:∀ x∈xs,Wi x):InR w ⟨pv,xs,cp⟩∧(pv=none→cp=0):=by
  refine⟨⟨row_in h,?_,?_,hw⟩,fun e=>by subst e;exact own_nil h⟩
  all_goals
    have h2:w.ownsRow 0 3 1 (.slice pv xs.length cp) xs.length (iR xs):=h;rcases h2.2 with ⟨h0,h1⟩ | ⟨g,cap,cur,hv,_,_,hnc,hm,_⟩
  · obtain ⟨-, hl0, hc0⟩ : pv = none ∧ xs.length = 0 ∧ cp = 0 := by simpa using h0
    show xs.length≤cp;omega
  · cases hv;exact hnc
  · obtain ⟨-, hl0, hc0⟩ : pv = none ∧ xs.length = 0 ∧ cp = 0 := by simpa using h0
    show cp≤maxLen;rw [hc0];exact Nat.zero_le _
  · cases hv;exact hm
theorem nil_sA (n:Nat):nilR n=sA (nilS n):=by
  apply Array.ext
  · simp [nilR,madeCells,sA]
  · intro i h1 h2
    have hi:i<n:=(by simpa [nilR,madeCells] using h1);have e:=nilR_at hi;rw [Array.getElem?_eq_getElem h1,Option.some.injEq] at e;rw [e];simp [sA]
def cpd (S S1:List SlI) (i:Nat):Prop:=S1.length=S.length∧∀ j,j<i→(S1.getD j ⟨none,[],0⟩).xs=(S.getD j ⟨none,[],0⟩).xs
theorem cpd_step {S S1:List SlI} {i:Nat} {r:SlI} (h:cpd S S1 i) (hi:i<S.length) (hr:r.xs=(S.getD i ⟨none,[],0⟩).xs):cpd S (S1.set i r) (i+1):=by
  refine⟨by simp [h.1],fun j hj=>?_⟩;by_cases e:j=i
  · subst e;rw [← hr];simp [List.getD_eq_getElem?_getD,h.1,hi]
  · rw [← h.2 j (by omega)];simp [List.getD_eq_getElem?_getD,List.getElem?_set_ne (Ne.symm e)]
theorem cpd_end {S S1:List SlI} (h:cpd S S1 S.length):stX S1=stX S:=by
  refine List.ext_getElem (by simp [stX,h.1]) fun i h1 h2=>?_;have hi:i<S.length:=(by simpa [stX] using h2);have:=h.2 i hi;simpa [stX,List.getD_eq_getElem?_getD,hi,h.1] using this
theorem copied_any (p:Option Addr) (S:List SlI) (cp:Nat) (w:World) (hS:InS2 w p S) (hn:S.length≤1000) (hx:∀ r∈S,r.xs.length≤1000000) :
  Calls Tryz.prog 55 #[.slice p S.length cp] w fun e w'=>∃ g S',e=.returned (.slice (some ⟨g,0,none⟩) S.length S.length)∧stX S'=stX S∧HP Tr w w' [.cel g (sA S') 32]∧Rows w' S':=by
 refine calls_of Tryz.func55 rfl (m:=23) rfl [(0,.slice p S.length cp)] (Fr_enter [.slice p S.length cp] 23 (Nat.le_of_ble_eq_true rfl)) ?_;have hH1:HP Tr w w []:=HP.refl w;refine WC.seq fun K2 hK2=>WC.region (WL.z (.slice none 0 0) 2 (WL.k hK2 (WC.seq fun K3 hK3=>WC.region (WL.z (.slice p S.length cp) 5 (WL.z (vI (S.length:Int)) 6 ?_)))));refine WL.alloc (c:=nilR S.length) (T:=32) hH1 7 rfl (by decide) rfl rfl (fun g=>vS g S.length S.length) (x_makeR rfl rfl rfl (makeS2 S.length (by omega) _)) (fun g w9 hw9=>?_);have hH9:HP Tr w w9 [.cel g (sA (nilS S.length)) 32]:=HP.eq hw9.2 (by rw [nil_sA];rfl);refine WL.z (vS g S.length S.length) 3 (WL.k hK3 (WC.seq fun K4 hK4=>WC.seq fun K5 hK5=>WC.region (WL.z (.slice p S.length cp) 8 (WL.z (vI (S.length:Int)) 9 (WL.z (vI 0) 10 (WL.nil (WQ.then ?_)))))));refine hK5 _ _ _ (WC.block ?_);refine WC.loop (fun kk0 ll0 ww0=>∃ (i:Nat) (S1:List SlI),ll0=[(0,.slice p S.length cp),(3,vS g S.length S.length),(9,vI (S.length:Int)),(10,vI (i:Int))]∧kk0=S.length-i∧(i≤S.length)∧(cpd S S1 i)∧(Rows ww0 S1)∧HP Tr w ww0 [.cel g (sA S1) 32]) (S.length) [(0,.slice p S.length cp),(3,vS g S.length S.length),(9,vI (S.length:Int)),(10,vI 0)] ⟨rfl,rfl,rfl,rfl,trivial⟩ ⟨0,nilS S.length,rfl,rfl,Nat.zero_le _,⟨by simp,fun j hj=>by omega⟩,fun r hr=>by rw [List.eq_of_mem_replicate hr];exact⟨⟨fun h=>absurd h (by simp),Nat.le_refl _,by decide,fun x hx=>by cases hx⟩,fun _=>rfl⟩,hH9⟩ ?_;rintro kk l w7 ⟨i,S1,rfl,hkk,hi,hcp,hrows,hH8⟩ K6 hK6;have hInv:=hH8;have hO:(_:World).heap[g]?=some (.cells (sA S1) 32 (0,0)):=HP.get hInv 0 rfl;have hR0:=HP.ownB (A:=[]) hInv;have hH9:=HP.startB hR0;refine WC.seq fun K10 hK10=>WC.region ?_;by_cases hlt:(i:Int)<(S.length:Int)
 ·
  refine WL.y (.bool true) 11 (x_lss rfl rfl rfl (dT (hlt))) (WL.k hK10 (WC.seq fun K11 hK11=>?_));refine WC.yes rfl ?_;refine WC.skip (WQ.then (hK11 _ _ _ (WC.seq fun K12 hK12=>WC.block (WC.seq fun K13 hK13=>WC.region (WL.z (vI (i:Int)) 12 (WL.z (vI (i:Int)) 4 (WL.k hK13 ?_)))))));obtain⟨r,hr⟩:∃ r,S[i]?=some r:=⟨S[i]'(by omega),List.getElem?_eq_getElem _⟩;obtain⟨hr1,hr2,hr3,hr4⟩:=stX_at hr;have hIR:=(hS.below (HP.below hInv)).inn r hr4;obtain⟨gS,oS,hpS,hrowS⟩:=(hS.below (HP.below hInv)).row (by omega);have hxn:=hx r hr4;subst hpS;refine WC.region (WL.z (vS g S.length S.length) 13 (WL.z (vI (i:Int)) 14 (WL.z (.slice (some ⟨gS,oS,none⟩) S.length cp) 15 (WL.z (vI (i:Int)) 16 (WL.y (vP gS (oS+i)) 17 (x_ix (i) (oS+i) Tryz.underlying33 sz32) (WL.y (.slice r.q r.xs.length r.c) 18 (x_load rfl rfl Tryz.underlying32 rfl (by have q9:=hrowS i (by omega);rw [hr2] at q9;exact q9 0 _ rfl)) ?_))))));refine WL.c 81 #[.slice r.q r.xs.length r.c] 19 ?_;refine(clone_any r _ hIR hxn).mono ?_;rintro e w14 ⟨pv,cp9,rfl,hb15⟩;refine⟨_,rfl,?_⟩;have hH16:HP (Out [.cel g (sA S1) 32]) w7 _ [.cel g (sA S1) 32,rowI' pv cp9 r.xs]:=HP.trans hH9 hb15;refine WL.y (vP g i) 20 (x_ix (i) (i) Tryz.underlying33 sz32) ?_;refine WL.store (c':=sA (S1.set i ⟨pv,r.xs,cp9⟩)) (H2:=_) 0 hH16 rfl rfl rfl rfl rfl rfl sz32 rfl (by rw [sA_size,hcp.1];omega) (sA_set (r:=⟨pv,r.xs,cp9⟩)) rfl ?_;intro w8 hB8;have hH17:HP (Out [.cel g (sA S1) 32]) w7 _ [.cel g (sA (S1.set i ⟨pv,r.xs,cp9⟩)) 32,rowI' pv cp9 r.xs]:=hB8;refine WL.nil (WQ.inNormal (WQ.then (hK12 _ _ _ (WC.sb [(0,.slice (some ⟨gS,oS,none⟩) S.length cp),(3,vS g S.length S.length),(4,vI (i:Int)),(9,vI (S.length:Int)),(10,vI (i:Int)),(11,.bool true)] (WC.region (WL.y (vI ((i+1:Nat):Int)) 21 (x_ad (((i+1:Nat):Int))) (WL.z (vI ((i+1:Nat):Int)) 10 (WL.nil ?_))))))));have hRw:=(hrows.keep hO hH17).set (k:=i) (row_InR (HP.get hH17 1 rfl) hIR.hw)
  refine WQ.sb [(0,.slice (some ⟨gS,oS,none⟩) S.length cp),(3,vS g S.length S.length),(9,vI (S.length:Int)),(10,vI ((i+1:Nat):Int))] ?_;refine WQ.then (hK6 _ _ _ (by omega) ⟨i+1,S1.set i ⟨pv,r.xs,cp9⟩,rfl,rfl,by omega,cpd_step hcp (by omega) (by rw [hr2]),hRw,(HP.drop (HP.exch (A:=[]) hInv hH17) 1)⟩)
 ·
  refine WL.y (.bool false) 11 (x_lss rfl rfl rfl (dF (hlt))) (WL.k hK10 (WC.seq fun K18 hK18=>?_));refine WC.no rfl ?_;refine WC.exit (WQ.thenExit (WQ.thenExit (WQ.inExit (WQ.then (hK4 _ _ _ (WC.seq fun K19 hK19=>WC.region (WL.z (vS g S.length S.length) 22 (WL.z (vS g S.length S.length) 2 (WL.nil (WQ.then ?_))))))))));refine hK19 _ _ _ (WC.ret ?_);refine WQ.ret1 2 rfl rfl ?_;have hil:i=S.length:=(by omega);rw [hil] at hcp;exact⟨g,S1,rfl,cpd_end hcp,hInv,hrows⟩
end Ca
end Go.Proofs.YtmjnakhpekbenaaGreat
namespace Go.Proofs.YtmjnakhpekbenaaGreat
set_option maxRecDepth 20000
set_option maxHeartbeats 4000000
open Go.RowKit Fw
namespace Ca
def allW (xs:List Int):Bool:=xs.all fun x=>wn x 0 999
theorem allW_yes {xs:List Int} (h:∀ i,i<xs.length→wn (xs.getD i 0) 0 999=true):allW xs=true:=List.all_eq_true.2 fun x hx=>by
  obtain⟨i,hi,rfl⟩:=List.mem_iff_getElem.1 hx;have:=h i hi;simpa [List.getD_eq_getElem?_getD,hi] using this
theorem allW_no {xs:List Int} {i:Nat} (hi:i<xs.length) (h:wn (xs.getD i 0) 0 999=false):allW xs=false:=by
  cases q:allW xs with
  | false=>rfl
  | true =>
    have:=List.all_eq_true.1 q xs[i] (List.getElem_mem hi);have e:xs.getD i 0=xs[i]:=(by simp [List.getD_eq_getElem?_getD,hi]);rw [e,this] at h;cases h
theorem wrong_any (a:Int) (w:World) :
    Calls Tryz.prog 51 #[vI a] w fun e w'=>e=.returned (.bool (!wn a 0 999))∧Below w.heap.size w w':=by
  refine calls_of Tryz.func51 rfl (m:=6) rfl [(0,vI a)] (Fr_enter [vI a] 6 (Nat.le_of_ble_eq_true rfl)) ?_;have hH1:HP Tr w w []:=HP.refl w;refine WC.seq fun K2 hK2=>WC.region (WL.z (.bool false) 2 (WL.k hK2 (WC.seq fun K3 hK3=>WC.region (WL.z (vI a) 3 ?_))));refine WL.c 52 #[vI a,vI 0,vI 999] 4 ?_;refine(within_any a 0 999 _).mono ?_;rintro e w4 ⟨rfl,rfl⟩;refine⟨_,rfl,?_⟩;refine WL.z (.bool (!(wn a 0 999))) 5 (WL.z (.bool (!(wn a 0 999))) 2 (WL.k hK3 (WC.ret ?_)));refine WQ.ret1 2 rfl rfl ?_;exact⟨rfl,HP.below hH1⟩
theorem indexW_any (q:Option Addr) (xs:List Int) (c:Nat) (w:World) (hI:InI w q xs) (hn:xs.length≤281474976710656) :
  Calls Tryz.prog 80 #[.slice q xs.length c,.func (.func 51) #[] #[]] w fun e w'=>∃ r:Int,e=.returned (.int .i64 r)∧(decide (0≤r)=!allW xs)∧Below w.heap.size w w':=by
 refine calls_of Tryz.func80 rfl (m:=19) rfl [(0,.slice q xs.length c),(1,.func (.func 51) #[] #[])] (Fr_enter [.slice q xs.length c,.func (.func 51) #[] #[]] 19 (Nat.le_of_ble_eq_true rfl)) ?_;have hH1:HP Tr w w []:=HP.refl w;refine WC.seq fun K2 hK2=>WC.region (WL.z (vI 0) 4 (WL.k hK2 (WC.seq fun K3 hK3=>WC.seq fun K4 hK4=>WC.region (WL.z (.slice q xs.length c) 6 (WL.z (vI (xs.length:Int)) 7 (WL.z (vI 0) 8 ?_))))));refine WL.k hK4 (WC.block ?_);refine WC.loop (fun kk0 ll0 ww0=>∃ (i:Nat),ll0=[(0,.slice q xs.length c),(1,.func (.func 51) #[] #[]),(7,vI (xs.length:Int)),(8,vI (i:Int))]∧kk0=xs.length-i∧(i≤xs.length)∧(∀ j,j<i→wn (xs.getD j 0) 0 999=true)∧HP Tr w ww0 []) (xs.length) [(0,.slice q xs.length c),(1,.func (.func 51) #[] #[]),(7,vI (xs.length:Int)),(8,vI 0)] ⟨rfl,rfl,rfl,rfl,trivial⟩ ⟨0,rfl,rfl,Nat.zero_le _,fun j hj=>by omega,hH1⟩ ?_;rintro kk l w6 ⟨i,rfl,hkk,hi,hall,hH7⟩ K5 hK5;refine WC.seq fun K8 hK8=>WC.region ?_;by_cases hlt:(i:Int)<(xs.length:Int)
 ·
  refine WL.y (.bool true) 9 (x_lss rfl rfl rfl (dT (hlt))) (WL.k hK8 (WC.seq fun K9 hK9=>?_));refine WC.yes rfl ?_;refine WC.skip (WQ.then (hK9 _ _ _ (WC.seq fun K10 hK10=>WC.block (WC.seq fun K11 hK11=>WC.region (WL.z (vI (i:Int)) 10 (WL.z (vI (i:Int)) 5 (WL.k hK11 ?_)))))));refine WC.seq fun K12 hK12=>?_;obtain⟨g,o,rfl,hrow⟩:=hI (by omega);refine WC.region (WL.z (.func (.func 51) #[] #[]) 11 (WL.z (.slice (some ⟨g,o,none⟩) xs.length c) 12 (WL.z (vI (i:Int)) 13 (WL.y (vP g (o+i)) 14 (x_ix (i) (o+i) Tryz.underlying32 sz3) (WL.y (vI (xs.getD i 0)) 15 (x_load rfl rfl Tryz.underlying3 rfl ((HP.oldRange hH7 trivial (hrow i (by omega))) 0 _ rfl)) ?_)))));refine WL.c 51 #[vI (xs.getD i 0)] 16 ?_;refine(wrong_any _ _).mono ?_;rintro e w13 ⟨rfl,hb14⟩;refine⟨_,rfl,?_⟩;have hH15:=HP.call hH7 hb14;refine WL.k hK12 (WC.sb [(0,.slice (some ⟨g,o,none⟩) xs.length c),(1,.func (.func 51) #[] #[]),(5,vI (i:Int)),(7,vI (xs.length:Int)),(8,vI (i:Int)),(9,.bool true),(16,.bool (!wn (xs.getD i 0) 0 999))] ?_);rcases Bool.eq_false_or_eq_true (wn (xs.getD i 0) 0 999) with hw9 | hw9
  ·
   refine WC.no (congrArg (fun b=>some (Value.bool (!b))) hw9) ?_;refine WC.skip (WQ.inNormal (WQ.then (hK10 _ _ _ (WC.region (WL.y (vI ((i+1:Nat):Int)) 18 (x_ad (((i+1:Nat):Int))) (WL.z (vI ((i+1:Nat):Int)) 8 (WL.nil (WQ.sb [(0,.slice (some ⟨g,o,none⟩) xs.length c),(1,.func (.func 51) #[] #[]),(7,vI (xs.length:Int)),(8,vI ((i+1:Nat):Int))] ?_))))))));refine WQ.then (hK5 _ _ _ (by omega) ⟨i+1,rfl,rfl,by omega,fun j hj=>by
        by_cases q9:j=i
        · subst q9;simpa using hw9
        · exact hall j (by omega),hH15⟩)
  ·
   refine WC.yes (congrArg (fun b=>some (Value.bool (!b))) hw9) ?_;refine WC.seq fun K16 hK16=>WC.region (WL.z (vI (i:Int)) 17 (WL.z (vI (i:Int)) 4 (WL.k hK16 (WC.ret ?_))));refine WQ.inRet ?_;refine WQ.thenRet ?_;refine WQ.thenRet ?_;refine WQ.inRet ?_;refine WQ.thenRet ?_;refine WQ.ret1 4 rfl rfl ?_;exact⟨(i:Int),rfl,by rw [allW_no (show i<xs.length by omega) (by simpa using hw9)];simp,HP.below hH15⟩
 ·
  refine WL.y (.bool false) 9 (x_lss rfl rfl rfl (dF (hlt))) (WL.k hK8 (WC.seq fun K17 hK17=>?_));refine WC.no rfl ?_;refine WC.exit (WQ.thenExit (WQ.thenExit (WQ.inExit (WQ.then (hK3 _ _ _ (WC.seq fun K18 hK18=>WC.region (WL.z (vI (-1)) 4 (WL.k hK18 ?_))))))));refine WC.ret ?_;refine WQ.ret1 4 rfl rfl ?_;exact⟨-1,rfl,by rw [allW_yes (fun j hj=>hall j (by omega))];decide,HP.below hH7⟩
theorem containsW_any (q:Option Addr) (xs:List Int) (c:Nat) (w:World) (hI:InI w q xs) (hn:xs.length≤281474976710656) :
    Calls Tryz.prog 54 #[.slice q xs.length c,.func (.func 51) #[] #[]] w fun e w'=>e=.returned (.bool (!allW xs))∧Below w.heap.size w w':=by
  refine calls_of Tryz.func54 rfl (m:=9) rfl [(0,.slice q xs.length c),(1,.func (.func 51) #[] #[])] (Fr_enter [.slice q xs.length c,.func (.func 51) #[] #[]] 9 (Nat.le_of_ble_eq_true rfl)) ?_;have hH1:HP Tr w w []:=HP.refl w;refine WC.seq fun K2 hK2=>WC.region (WL.z (.bool false) 4 (WL.k hK2 (WC.seq fun K3 hK3=>WC.region (WL.z (.slice q xs.length c) 5 (WL.z (.func (.func 51) #[] #[]) 6 ?_)))));refine WL.c 80 #[.slice q xs.length c,.func (.func 51) #[] #[]] 7 ?_;refine(indexW_any q xs c _ (hI.below (HP.below hH1)) hn).mono ?_;rintro e w4 ⟨r,rfl,hr,hb5⟩;refine⟨_,rfl,?_⟩;have hH6:=HP.call hH1 hb5;by_cases h8:(0:Int)≤r
  ·
    refine WL.y (.bool true) 8 (x_geq rfl rfl rfl (dT (h8))) (WL.z (.bool true) 4 (WL.k hK3 (WC.ret ?_)));refine WQ.ret1 4 rfl rfl ?_;exact⟨by rw [← hr,decide_eq_true h8],HP.below hH6⟩
  ·
    refine WL.y (.bool false) 8 (x_geq rfl rfl rfl (dF (h8))) (WL.z (.bool false) 4 (WL.k hK3 (WC.ret ?_)));refine WQ.ret1 4 rfl rfl ?_;exact⟨by rw [← hr,decide_eq_false h8],HP.below hH6⟩
end Ca
end Go.Proofs.YtmjnakhpekbenaaGreat
namespace Go.Proofs.YtmjnakhpekbenaaGreat
open Go.RowKit Fw
namespace Ca
theorem idx_spec (x:Int) (xs:List Int):(Lib.idxOf xs x<0∧∀ i,i<xs.length→xs.getD i 0≠x)∨(∃ k:Nat,Lib.idxOf xs x=(k:Int)∧k<xs.length∧xs.getD k 0=x∧∀ j,j<k→xs.getD j 0≠x):=by
  rw [idx_plc];unfold plcV;rcases plc_spec x xs with ⟨h1,h2⟩ | ⟨k,h1,h2,h3,h4⟩
  · rw [h1];exact .inl ⟨by decide,h2⟩
  · rw [h1];exact .inr ⟨k,rfl,h2,h3,h4⟩
theorem okR_iff2 {s y k:Int} {xs:List Int}:okR s y k xs=true↔(xs.length:Int)≤y∧(∀ x∈xs,(0≤x∧x≤999)∧x.tmod s=k)∧xs.Nodup:=by
  rw [okR_iff];have gd:∀ i (h:i<xs.length),xs.getD i 0=xs[i]:=fun i h=>by simp [List.getD_eq_getElem?_getD,h]
  refine⟨fun ⟨h1,h2⟩=>⟨h1,fun x hx=>?_,?_⟩,fun ⟨h1,h2,h3⟩=>⟨h1,fun i hi=>?_⟩⟩
  · obtain ⟨i, hi, rfl⟩ := List.mem_iff_getElem.1 hx
    have:=h2 i hi;simp only [okX,Bool.and_eq_true,decide_eq_true_eq,gd i hi] at this;exact⟨wn_iff.1 this.1,this.2.1⟩
  · refine List.pairwise_iff_getElem.2 fun i j hi hj hij e => ?_
    have:=h2 j hj;simp only [okX,Bool.and_eq_true,Bool.not_eq_true',gd j hj] at this;have h4:=this.2.2;have:xs[j]∈xs.take j:=by
      rw [← e];exact List.mem_iff_getElem.2 ⟨i,by simp;omega,by simp⟩
    rw [List.contains_iff_mem.2 this] at h4;cases h4
  · simp only [okX, Bool.and_eq_true, decide_eq_true_eq, Bool.not_eq_true', gd i hi]
    obtain⟨q1,q2⟩:=h2 xs[i] (List.getElem_mem hi);refine⟨wn_iff.2 q1,q2,?_⟩;cases q:(xs.take i).contains xs[i] with
    | false=>rfl
    | true =>
      obtain⟨j,hj,e⟩:=List.mem_iff_getElem.1 (List.contains_iff_mem.1 q);simp only [List.length_take] at hj;simp only [List.getElem_take] at e;exact absurd e (List.pairwise_iff_getElem.1 h3 j i (by omega) hi (by omega))
theorem erase_eq:∀ {xs:List Int} {k:Nat} {x:Int},xs.Nodup→k<xs.length→xs.getD k 0=x→xs.eraseIdx k=xs.filter (fun z=>z != x)
  | a::r,0,x,hn,hk,he=>by
    have he:a=x:=(by simpa using he);subst he;have h1:∀ z∈r,a≠z:=(List.pairwise_cons.1 hn).1;rw [List.filter_cons_of_neg (by simp),List.filter_eq_self.2 fun z hz=>by simpa using fun e=>h1 z hz e.symm]
    rfl
  | a::r,k+1,x,hn,hk,he=>by
    have he:r.getD k 0=x:=(by simpa using he);have hk':k<r.length:=(by simpa using hk);have hx:x∈r:=(by rw [← he];simp [List.getD_eq_getElem?_getD,hk']);have h1:a≠x:=(List.pairwise_cons.1 hn).1 x hx;rw [List.filter_cons_of_pos (by simpa using h1),List.eraseIdx_cons_succ,erase_eq (List.pairwise_cons.1 hn).2 hk' he]
theorem not_mem_of {xs:List Int} {x:Int} (h:∀ i,i<xs.length→xs.getD i 0≠x):x ∉ xs:=fun hx=>by
  obtain⟨i,hi,e⟩:=List.mem_iff_getElem.1 hx;exact h i hi (by simp [List.getD_eq_getElem?_getD,hi,e])
theorem filter_self {xs:List Int} {x:Int} (h:x ∉ xs):xs.filter (fun z=>z != x)=xs:=List.filter_eq_self.2 fun z hz=>by
  have:z≠x:=fun e=>h (e ▸ hz);simpa using this
def tcF (y x:Int) (xs:List Int):List Int:=x::(xs.filter fun z=>z != x).take (y.toNat-1)
theorem tcX_eq {s y k x:Int} {xs:List Int} (h:okR s y k xs=true) (hy:1≤y):tcX y x xs=tcF y x xs:=by
  obtain⟨h1,h2,h3⟩:=okR_iff2.1 h;unfold tcX tcF;rcases idx_spec x xs with ⟨q1,q2⟩ | ⟨k0,q1,q2,q3,_⟩
  · have hx := not_mem_of q2
    rw [if_neg (by omega),filter_self hx];by_cases e:(xs.length:Int)=y
    · rw [if_pos e,show y.toNat-1=xs.length-1 by omega]
    · rw [if_neg e,List.take_of_length_le (by omega)]
  · rw [if_pos (by omega), q1, Int.toNat_natCast, ← erase_eq h3 q2 q3, List.take_of_length_le]
    rw [List.length_eraseIdx_of_lt q2];omega
theorem tcF_ok {s y k x:Int} {xs:List Int} (h:okR s y k xs=true) (hy:1≤y) (hx:0≤x∧x≤999) (hk:x.tmod s=k):okR s y k (tcF y x xs)=true:=by
  obtain⟨h1,h2,h3⟩:=okR_iff2.1 h;have hs:((xs.filter fun z=>z != x).take (y.toNat-1)).Sublist xs:=(List.take_sublist _ _).trans List.filter_sublist;refine okR_iff2.2 ⟨?_,fun z hz=>?_,?_⟩
  · unfold tcF;simp;omega
  · rcases List.mem_cons.1 hz with rfl | hz
    · exact⟨hx,hk⟩
    · exact h2 z (hs.subset hz)
  · refine List.pairwise_cons.2 ⟨fun z hz => ?_, h3.sublist hs⟩
    have:=(List.mem_filter.1 (List.mem_of_mem_take hz)).2;intro e;subst e;simp at this
def setN (s l a:Int):Nat:=((a/l).tmod s).toNat
def stp (s y l a:Int) (X:List (List Int)):List (List Int):=X.set (setN s l a) (tcX y (a/l) (X.getD (setN s l a) []))
def hitN (s l a:Int) (X:List (List Int)):Nat:=if 0≤Lib.idxOf (X.getD (setN s l a) []) (a/l) then 1 else 0
def runX (s y l:Int):List Int→List (List Int) × Nat→List (List Int) × Nat
  | [],p=>p
  | a::r,p=>runX s y l r (stp s y l a p.1,p.2+hitN s l a p.1)
theorem run_drop {s y l:Int} {zs:List Int} {i:Nat} (h:i<zs.length) (p:List (List Int) × Nat):runX s y l (zs.drop i) p=runX s y l (zs.drop (i+1)) (stp s y l (zs.getD i 0) p.1,p.2+hitN s l (zs.getD i 0) p.1):=by
  rw [List.drop_eq_getElem_cons h];have e:zs.getD i 0=zs[i]:=(by simp [List.getD_eq_getElem?_getD,h]);rw [e];rfl
theorem line_bd {l a:Int} (hl:1≤l∧l≤8) (ha:0≤a∧a≤999):0≤a/l∧a/l≤999:=⟨Int.ediv_nonneg ha.1 (by omega),Int.le_trans (Int.ediv_le_self _ ha.1) ha.2⟩
theorem setN_spec {s l a:Int} (hs:1≤s∧s≤8) (hl:1≤l∧l≤8) (ha:0≤a∧a≤999):(a/l).tmod s=(setN s l a:Int)∧(setN s l a:Int)<s:=by
  have h0:=(line_bd hl ha).1;have h1:(a/l).tmod s=(a/l) % s:=Int.tmod_eq_emod_of_nonneg h0;have h2:=Int.emod_nonneg (a/l) (show s≠0 by omega);have h3:=Int.emod_lt_of_pos (a/l) (show 0<s by omega);unfold setN;rw [h1];omega
theorem getD_set_eq {X:List (List Int)} {k:Nat} {r:List Int} (h:k<X.length):(X.set k r).getD k []=r:=by simp [List.getD_eq_getElem?_getD,h]
theorem getD_set_ne {X:List (List Int)} {k j:Nat} {r:List Int} (h:k≠j):(X.set k r).getD j []=X.getD j []:=by simp [List.getD_eq_getElem?_getD,List.getElem?_set_ne h]
theorem okSt_stp {s y l m a:Int} {X:List (List Int)} (h:okSt s y l m X=true) (ha:0≤a∧a≤999):okSt s y l m (stp s y l a X)=true:=by
  obtain⟨h1,h2,h3⟩:=okSt_iff.1 h;obtain⟨hs,hy,hl,-⟩:=vG_iff.1 h1;obtain⟨e1,e2⟩:=setN_spec hs hl ha;have hk:setN s l a<X.length:=(by omega);refine okSt_iff.2 ⟨h1,by unfold stp;simpa using h2,fun k hk2=>?_⟩;unfold stp at hk2 ⊢;by_cases e:setN s l a=k
  · subst e
    rw [getD_set_eq hk,tcX_eq (h3 _ hk) hy.1];exact tcF_ok (h3 _ hk) hy.1 (line_bd hl ha) e1
  · rw [getD_set_ne e]
    exact h3 k (by simpa using hk2)
theorem stp_length (s y l a:Int) (X:List (List Int)):(stp s y l a X).length=X.length:=by simp [stp]
theorem run_length (s y l:Int):∀ (zs:List Int) (p:List (List Int) × Nat),(runX s y l zs p).1.length=p.1.length
  | [],_=>rfl
  | a::r,p=>by rw [runX,run_length s y l r,stp_length]
theorem allW_iff {xs:List Int}:allW xs=true↔∀ x∈xs,0≤x∧x≤999:=by
  unfold allW;rw [List.all_eq_true];exact⟨fun h x hx=>wn_iff.1 (h x hx),fun h x hx=>wn_iff.2 (h x hx)⟩
theorem stX_set (S:List SlI) (k:Nat) (r:SlI):stX (S.set k r)=(stX S).set k r.xs:=by simp [stX,List.map_set]
end Ca
end Go.Proofs.YtmjnakhpekbenaaGreat
