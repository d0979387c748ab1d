/- The law DepotOnce, walked. -/
import Derived.Test.YthaaoongjcmleaaGreatDoorK28
import Derived.Test.YthaaoongjcmleaaGreatDoorK29
set_option linter.all false
set_option linter.unusedVariables false
set_option linter.unusedSimpArgs false
namespace Go.Sym
open Go Go.Proofs.Tryz
set_option maxRecDepth 100000
def Rqs.enc (O:Opq) (l:List Reqn):List (List PV):=l.map (Reqn.en O)
theorem Rqs.len (O:Opq) (l:List Reqn):(O.o (Rqs.enc O) l).length=l.length:=by rw[O.h,Rqs.enc,List.length_map]
def Anss.enc (O:Opq) (l:List Answer):List (List PV):=l.map (Answer.enc O)
theorem Anss.len (O:Opq) (l:List Answer):(O.o (Anss.enc O) l).length=l.length:=by rw[O.h,Anss.enc,List.length_map]
def bytR (b:Nat):List PV:=[.int .u8 b]
def bytsR:List Nat→List (List PV):=List.map bytR
theorem bytsR_len (O:Opq) (l:List Nat):(O.o bytsR l).length=l.length:=by rw[O.h,bytsR,List.length_map]
theorem Named.at' {α:Type} {x:Unit→α} {K:α→Prop} (v:α) (h:v=x ()) (k:K v):Named α x K:=.mk fun n e=>by rw[e,← h];exact k
theorem room_ok {n m:Nat} {x:List PV} (h:n≤100) (hm:m≤1000):(n+[x].length) * m≤2 ^ 44∧n+[x].length≤2 ^ 60:=by
 have:(n+[x].length) * m≤101 * 1000:=Nat.mul_le_mul (by simp;omega) hm
 exact⟨Nat.le_trans this (by decide),by simp;omega⟩
structure OSt where
 i:Nat
 d:Depot
 es:List (PV×PV)
 f:Int→Int
 qs:List Reqn
 tl:List Answer
def SmallQ (o:Opn):Prop:=SmallO o 1099511627
set_option maxHeartbeats 8000000 in
theorem depotOnce_fn (O:Opq) (l:List Reqn) (ag:List Nat) (hl:l.length≤9223372036854775807) (hal:ag.length≤9223372036854775807) (hab:∀ b∈ag,b<256):Fn prog 5 [.sl false 0 false 13 (O.o (Rqs.enc O) l),.sl false 0 false 1 (O.o bytsR ag)] [] [.bool true] []:=by
 have aw:=awake14_fn O
 have hlen:=Rqs.len O l
 have hlen2:=bytsR_len O ag
 obtain⟨N,hN⟩:∃ N:Nat,N=l.length:=⟨_,rfl⟩
 obtain⟨z,hz⟩:∃ z:Nat,z=0:=⟨_,rfl⟩
 obtain⟨Z,eZ⟩:∃ Z:Depot,Z=zeroD:=⟨_,rfl⟩
 obtain⟨f0,ef0⟩:∃ f:Int→Int,f=fun _=>0:=⟨_,rfl⟩
 obtain⟨qs0,eq0⟩:∃ l:List Reqn,l=[]:=⟨_,rfl⟩
 obtain⟨as0,ea0⟩:∃ l:List Answer,l=[]:=⟨_,rfl⟩
 have hI0:Once SmallQ Z f0 qs0 as0 z:=by rw[eZ,ef0,eq0,ea0,hz];exact once_zero _
 have hE0:idsAt [] f0:=by rw[ef0];exact idsAt_nil
 have e1:O.o (Nms.enc O) Z.docs=[]:=by rw[O.h,eZ];rfl
 have e2:O.o (Chs.enc O) Z.feed.changes=[]:=by rw[O.h,eZ];rfl
 have e5:O.o Subs.enc Z.feed.subs=[]:=by rw[O.h,eZ];rfl
 have e6:O.o (Lasts.enc O) Z.last=[]:=by rw[O.h,eZ];rfl
 have e7:Z.feed.base=0∧Z.feed.total=0:=by rw[eZ];exact⟨rfl,rfl⟩
 have e8:O.o (Rqs.enc O) qs0=[]:=by rw[O.h,eq0];rfl
 have e9:O.o (Anss.enc O) as0=[]:=by rw[O.h,ea0];rfl
 clear eZ ef0 eq0 ea0
 refine go (fn:=Proofs.Tryz.f5) (n:=178) (rv:=[ResultVar.tmp 4]) rfl (by decide) rfl (by decide +kernel) rfl rfl (by simp) fun F L C=>?_
 cbv
 (repeat' first|(refine Na ?_ fun _ _=>?_;(focus lia);cbv)|(refine Nl fun _ _ hq=>?_;(try simp only [lenS] at hq);cbv)|(refine Nm fun _ _=>?_;cbv)|(refine Br.t ?_ ?_;(focus first|assumption|lia);cbv)|(refine Br.f ?_ ?_;(focus first|assumption|lia);cbv)|(refine Br.mk (fun _=>?_) (fun _=>?_)<;>cbv)|(refine Need.mk ?_ ?_;rotate_left;cbv)|(refine R0 ?_;cbv))
 refine LoopThen.mk (C.loopAt (ι:=OSt) ((23,27)::[(4,4),(8,22),(28,173)]) (fun x=>[(4,.bool false),(8,.ref 50),(9,.ref 51),(10,.int .i64 x.i)])
  (fun x=>[(50,.arr 0 none 8 (O.o (Anss.enc O) x.tl)),(51,.arr 0 none 13 (O.o (Rqs.enc O) x.qs)),(448,.box [.sl false 0 false 2 (O.o (Nms.enc O) x.d.docs),.int .i64 x.d.feed.base,.int .i64 x.d.feed.total,.sl false 0 false 4 (O.o (Chs.enc O) x.d.feed.changes),.sl false 0 false 2 (O.o Subs.enc x.d.feed.subs),.sl false 0 false 10 (O.o (Lasts.enc O) x.d.last)]),(512,.box [.sl false 0 false 2 (O.o (Nms.enc O) x.d.docs),.int .i64 x.d.feed.base,.int .i64 x.d.feed.total,.sl false 0 false 4 (O.o (Chs.enc O) x.d.feed.changes),.sl false 0 false 2 (O.o Subs.enc x.d.feed.subs),.sl false 0 false 10 (O.o (Lasts.enc O) x.d.last)]),(1728,.map (.int .i64) x.es)])
  (fun x=>x.i≤N∧x.i≤25∧Once SmallQ x.d x.f x.qs x.tl x.i∧idsAt x.es x.f) (fun x=>N-x.i) (by decide +kernel) (Start.mk ⟨z,Z,[],f0,qs0,as0⟩ [(50,.loc 1792),(51,.loc 1856)] [] ⟨by show z≤N;omega,by show z≤25;omega,hI0,hE0⟩ ?_) ?_)
 ·cbv
  (repeat' apply And.intro)<;>first|exact True.intro|exact WkR.refl _|rfl|lia|exact e7.1|exact e7.2|exact e1|exact e2|exact e5|exact e6|exact .of_eq e1|exact .of_eq e8|exact .of_eq e9|trace_state
 clear hI0 hE0 e1 e2 e5 e6 e7 e8 e9
 intro x g
 cbv
 obtain⟨i,d,es,f,qs,tl⟩:=x
 have i1:i≤N:=g.1
 have i2:i≤25:=g.2.1
 have i3:Once SmallQ d f qs tl i:=g.2.2.1
 have i4:idsAt es f:=g.2.2.2
 clear g
 by_cases hi:i<l.length∧i<25
 ·obtain⟨hi1,hi2⟩:=hi
  obtain⟨q,hq⟩:∃ q,l[i]?=some q:=⟨l[i],by simp [hi1]⟩
  have g2:=llight_fn O q.op
  have t2:=rturns_fn O q.op.kind
  have hstay:=i3.mono
  by_cases hlt:lightO q.op=true∧turnsB q.op.kind=true
  ·obtain⟨hlt,htn⟩:=hlt
   rw[show O.o lightO q.op=true by rw[O.h];exact hlt] at g2
   rw[show O.o turnsB q.op.kind=true by rw[O.h];exact htn] at t2
   have hsm:SmallQ q.op:=light_small hlt _ (by decide)
   clear hstay
   obtain⟨c3,hc3⟩:∃ c:Int,c=(Int.ofNat i).tmod 3:=⟨_,rfl⟩
   have hc3':c3=(i:Int) % 3:=by rw[hc3];exact Int.tmod_eq_emod_of_nonneg (Int.natCast_nonneg i)
   obtain⟨c,hc⟩:∃ c:Int,c=1+c3:=⟨_,rfl⟩
   have hcw:c=IntKind.i64.wrap (1+c3):=by rw[wrap64 (by omega),hc]
   have hcr:1≤c∧c≤3:=by omega
   obtain⟨v0,hv0⟩:∃ v:Int,v=f c:=⟨_,rfl⟩
   obtain⟨v1,hv1⟩:∃ v:Int,v=v0+1:=⟨_,rfl⟩
   have hv0r:=i3.ids c
   have hvw:v1=IntKind.i64.wrap (v0+1):=by rw[wrap64 (by omega),hv1]
   obtain⟨es1,hes1⟩:∃ l,l=mset (.int .i64 c) (.int .i64 v1) es:=⟨_,rfl⟩
   have h1:(mget (.int .i64 c) es).getD (.int .i64 0)=.int .i64 v0:=by rw[hv0];exact i4 c
   have h1':idsAt es1 (upI f c (f c+1)):=by rw[hes1,hv1,hv0];exact idsAt_set i4 _ _
   have h2:(mget (.int .i64 c) es1).getD (.int .i64 0)=.int .i64 v1:=by rw[h1' c,upI,if_pos rfl,hv1,hv0]
   have h1u:=h1
   have h2u:=h2
   unfold mget Option.getD at h1u h2u
   obtain⟨q1,hq1⟩:∃ q1:Reqn,q1=⟨c,v1,q.op⟩:=⟨_,rfl⟩
   obtain⟨D,A,hR⟩:∃ D A,depotR d q1=(D,A):=⟨_,_,rfl⟩
   have k1:=dapply_ok O d q1 i3.few (by omega) (by rw[hq1];exact hsm) D A hR
   have hnx:=i3.next (by omega) (q:=q1) (by rw[hq1];exact hcr) (by rw[hq1];show v1=f c+1;omega) (by rw[hq1];exact htn) (by rw[hq1];exact hsm) hR
   have hqc:q1.client=c:=by rw[hq1]
   rw[hqc] at hnx
   have hfA:FewA A:=by have:=depotR_few q1 i3.few;rw[hR] at this;exact this.2
   have k5:=FewA.same O hfA
   have hql:=Rqs.len O (qs++[q1])
   have hal:=Anss.len O (tl++[A])
   have hlq:=hnx.len
   rw[List.length_append] at hlq
   have hsq:O.o (Rqs.enc O) (qs++[q1])=O.o (Rqs.enc O) qs++[q1.en O]:=by simp only [O.h];simp [Rqs.enc]
   have hsa:O.o (Anss.enc O) (tl++[A])=O.o (Anss.enc O) tl++[A.enc O]:=by simp only [O.h];simp [Anss.enc]
   obtain⟨qs1,eqs1⟩:∃ l:List Reqn,l=qs++[q1]:=⟨_,rfl⟩
   obtain⟨tl1,etl1⟩:∃ l:List Answer,l=tl++[A]:=⟨_,rfl⟩
   obtain⟨f1,ef1⟩:∃ f1:Int→Int,f1=upI f c (f c+1):=⟨_,rfl⟩
   rw[← eqs1] at hsq hql
   rw[← etl1] at hsa hal
   rw[← eqs1,← etl1,← ef1] at hnx
   rw[← ef1] at h1'
   have hlq1:=hnx.len
   have hsR:(O.o (Rqs.enc O) qs).length≤100:=by rw[Rqs.len];have:=i3.len;omega
   have hsA:(O.o (Anss.enc O) tl).length≤100:=by rw[Anss.len];have:=i3.len;omega
   have hql1:0<qs1.length:=by rw[eqs1];simp
   have hlt1:tl1.length=tl.length+1:=by rw[etl1];simp
   clear i3 i4 hR hqc eqs1 etl1 ef1 hv0
   obtain⟨docs,⟨base,total,chs,subs⟩,ll⟩:=d
   obtain⟨qc,qi,⟨kind,key,to,doc,want,has,n,most,ops,ods,ons⟩⟩:=q
   subst hq1
   obtain⟨docs',⟨base',total',chs',subs'⟩,l'⟩:=D
   obtain⟨ac,ah,ad,ads,ans,an,at',ak⟩:=A
   (repeat' first|(refine Named.at' c3 hc3 ?_;cbv)|(refine Named.at' c hcw ?_;cbv)|(refine Named.at' v1 hvw ?_;cbv)|(refine Named.at' es1 hes1 ?_;cbv)|(refine Na ?_ fun _ _=>?_;(focus lia);cbv)|(refine Ex.known O (Reqn.en O) rfl hq ?_ ?_;(focus lia);cbv)|(refine CallThen.mk _ _ (C.fn (g2)) ?_;cbv)|(refine CallThen.mk _ _ (C.fn (t2)) ?_;cbv)|(refine Ex.mk (.int .i64 v0) h1u ?_;cbv)|(refine Ex.mk (.int .i64 v1) h2u ?_;cbv)|(refine CallThen.mk _ _ (C.fn (k1)) ?_;cbv)|(refine CallThen.mk _ _ (C.fn (k5)) ?_;cbv)|(refine Nl fun _ _ hq=>?_;(try simp only [lenS] at hq);cbv)|(refine Nm fun _ _=>?_;cbv)|(refine Br.t ?_ ?_;(focus first|assumption|lia);cbv)|(refine Br.f ?_ ?_;(focus first|assumption|lia);cbv)|(refine Br.mk (fun _=>?_) (fun _=>?_)<;>cbv)|(refine Need.mk ?_ ?_;rotate_left;cbv)|(refine R0 ?_;cbv))
   all_goals try first
    | exact room_ok hsR (by decide)
    | exact room_ok hsA (by decide)
    | decide
   clear g2 k1 k5 h1u h2u h1 h2 hc3 hcw hvw
   obtain⟨z3,hz3⟩:∃ z:Nat,z=0:=⟨_,rfl⟩
   refine LoopThen.mk (C.loop (ι:=Nat) (fun k=>⟨[.sl false 0 false 13 (O.o (Rqs.enc O) l),.sl false 0 false 1 (O.o bytsR ag),.top,.top,.bool false,.ptr 448 0,.ptr 512 0,.mp 1728,.ref 6784,.ref 7040,.int .i64 (Int.ofNat i),.ptr 832 0,.ptr 896 0,.ptr 960 0,.int .i64 0,.ptr 1088 0,.ptr 1152 0,.int .i64 0,.int .i64 k,.top,.top,.top,.top]++tops 157,
    [(6784,.arr 0 none 8 (O.o (Anss.enc O) tl1)),(7040,.arr 0 none 13 (O.o (Rqs.enc O) qs1)),(448,.box [.sl false 0 false 2 (O.o (Nms.enc O) docs'),.int .i64 base',.int .i64 total',.sl false 0 false 4 (O.o (Chs.enc O) chs'),.sl false 0 false 2 (O.o Subs.enc subs'),.sl false 0 false 10 (O.o (Lasts.enc O) l')]),(512,.box [.sl false 0 false 2 (O.o (Nms.enc O) docs'),.int .i64 base',.int .i64 total',.sl false 0 false 4 (O.o (Chs.enc O) chs'),.sl false 0 false 2 (O.o Subs.enc subs'),.sl false 0 false 10 (O.o (Lasts.enc O) l')]),(1728,.map (.int .i64) es1),
     (832,.box [.int .i64 c,.int .i64 v1,.int .i64 kind,.str key,.str to,.sl false 0 false 6 (O.o Doc.enc doc),.sl false 0 false 6 (O.o Doc.enc want),.bool has,.int .i64 n,.int .i64 most,.sl false 0 false 11 (O.o (Ops.enc O) ops),.sl false 0 false 2 (O.o (Nms.enc O) ods),.sl false 0 false 4 (O.o (Chs.enc O) ons)]),
     (896,.box [.sl false 0 false 2 (O.o (Nms.enc O) docs'),.int .i64 base',.int .i64 total',.sl false 0 false 4 (O.o (Chs.enc O) chs'),.sl false 0 false 2 (O.o Subs.enc subs'),.sl false 0 false 10 (O.o (Lasts.enc O) l')]),
     (960,.box [.int .i64 ac,.bool ah,.sl false 0 false 6 (O.o Doc.enc ad),.sl false 0 false 2 (O.o (Nms.enc O) ads),.sl false 0 false 4 (O.o (Chs.enc O) ans),.int .i64 an,.int .i64 at',.sl false 0 false 2 (O.o Prs.enc ak)]),
     (1088,.box [.sl false 0 false 2 (O.o (Nms.enc O) docs'),.int .i64 base',.int .i64 total',.sl false 0 false 4 (O.o (Chs.enc O) chs'),.sl false 0 false 2 (O.o Subs.enc subs'),.sl false 0 false 10 (O.o (Lasts.enc O) l')]),
     (1152,.box [.int .i64 ac,.bool ah,.sl false 0 false 6 (O.o Doc.enc ad),.sl false 0 false 2 (O.o (Nms.enc O) ads),.sl false 0 false 4 (O.o (Chs.enc O) ans),.int .i64 an,.int .i64 at',.sl false 0 false 2 (O.o Prs.enc ak)])]⟩)
    (fun k=>k≤3) (fun k=>3-k) (by decide +kernel) (Start.mk z3 [] [] (by show z3≤3;omega) ?_) ?_ (by rfl))
   ·cbv
    (repeat' apply And.intro)<;>first|exact True.intro|exact WkR.refl _|rfl|lia|(refine .of_eq (hsa.trans ?_);rename_i q1 q2 q3 q4 q5 q6;first|exact q1.symm|exact q2.symm|exact q3.symm|exact q4.symm|exact q5.symm|exact q6.symm)|(refine .of_eq (hsq.trans ?_);rename_i q1 q2 q3 q4 q5 q6;first|exact q1.symm|exact q2.symm|exact q3.symm|exact q4.symm|exact q5.symm|exact q6.symm)|trace_state
   clear hsa hsq
   intro k hk
   cbv
   replace hk:k≤3:=hk
   by_cases hkk:k<3∧i * 3+k<ag.length
   ·obtain⟨hk3,hka⟩:=hkk
    obtain⟨b,hb⟩:∃ b,ag[i * 3+k]?=some b:=⟨ag[i * 3+k],by simp [hka]⟩
    have hb256:=hab b (List.mem_of_getElem? hb)
    obtain⟨j,hj⟩:∃ j:Nat,j=b % qs1.length:=⟨_,rfl⟩
    have hjl:j<qs1.length:=by rw[hj];exact Nat.mod_lt _ hql1
    obtain⟨q2,hq2⟩:∃ q,qs1[j]?=some q:=⟨qs1[j],by simp [hjl]⟩
    obtain⟨A2,hA2⟩:∃ A,tl1[j]?=some A:=⟨tl1[j]'(by omega),by simp⟩
    have hR2:=hnx.again (by omega) hq2 hA2
    have hAs:=hnx.asked j q2 A2 hq2 hA2
    obtain⟨bI,hbI⟩:∃ x:Int,x=IntKind.i64.wrap (b:Int):=⟨_,rfl⟩
    have hbI':bI=b:=by rw[hbI,wrap64 (by omega)]
    obtain⟨LI,hLI⟩:∃ x:Int,x=((O.o (Rqs.enc O) qs1).length:Int):=⟨_,rfl⟩
    have hLI':LI=qs1.length:=by rw[hLI,hql]
    obtain⟨jI,hjI⟩:∃ x:Int,x=bI.tmod LI:=⟨_,rfl⟩
    have hjI':jI=j:=by rw[hjI,hbI',hLI',hj];rfl
    obtain⟨v2,hv2⟩:∃ v:Int,v=f1 q2.client:=⟨_,rfl⟩
    have h3:(mget (.int .i64 q2.client) es1).getD (.int .i64 0)=.int .i64 v2:=by rw[hv2];exact h1' q2.client
    unfold mget Option.getD at h3
    rw[← hv2] at hR2
    have k8:=DepSz.same O (hnx.few.sz (by omega))
    have hok:=hAs.few
    have hLI0:¬ LI=0:=by omega
    obtain⟨kI,hkI⟩:∃ x:Int,x=IntKind.i64.wrap (Int.ofNat k+1):=⟨_,rfl⟩
    have hkI2:Int.ofNat (k+1)=kI:=by rw[hkI,wrap64 (by rw[Int.ofNat_eq_natCast];omega)];rfl
    have hx1:0≤jI∧jI<((O.o (Rqs.enc O) qs1).length:Int):=by omega
    have hx2:0≤jI∧jI<((O.o (Anss.enc O) tl1).length:Int):=by omega
    by_cases hid:q2.id=v2
    ·rw[if_pos hid] at hR2
     have k2:=dapply_ok O _ q2 hnx.few (by omega) hAs.light _ _ hR2
     have k5:=FewA.same O hAs.few
     clear hAs hok hR2 hv2 hb256
     obtain⟨qc2,qi2,⟨kind2,key2,to2,doc2,want2,has2,n2,most2,ops2,ods2,ons2⟩⟩:=q2
     obtain⟨ac2,ah2,ad2,ads2,ans2,an2,at2,ak2⟩:=A2
     replace hid:qi2=v2:=hid
     (repeat' first|(refine Named.at' bI hbI ?_;cbv)|(refine Named.at' LI hLI ?_;cbv)|(refine Named.at' jI hjI ?_;cbv)|(refine Named.at' kI hkI ?_;cbv)|(refine Na ?_ fun _ _=>?_;(focus lia);cbv)|(refine Ex.known O bytR rfl hb ?_ ?_;(focus lia);cbv)|(refine Ex.known O (Reqn.en O) rfl hq2 ?_ ?_;(focus lia);cbv)|(refine Ex.known O (Answer.enc O) rfl hA2 ?_ ?_;(focus lia);cbv)|(refine CallThen.mk _ _ (C.fn (k2)) ?_;cbv)|(refine CallThen.mk _ _ (C.fn (k8)) ?_;cbv)|(refine Ex.mk (.int .i64 v2) h3 ?_;cbv)|(refine CallThen.mk _ _ (C.fn (k5)) ?_;cbv)|(refine Back.to (k+1) [] [] ?_ fun _ _=>?_;rotate_left;cbv)|(refine Nl fun _ _ hq=>?_;(try simp only [lenS] at hq);cbv)|(refine Nm fun _ _=>?_;cbv)|(refine Br.t ?_ ?_;(focus first|assumption|lia);cbv)|(refine Br.f ?_ ?_;(focus first|assumption|lia);cbv)|(refine Br.mk (fun _=>?_) (fun _=>?_)<;>cbv)|(refine Need.mk ?_ ?_;rotate_left;cbv)|(refine R0 ?_;cbv))
     all_goals try first
      | exact hx1
      | exact hx2
      | exact hLI0
      | (exfalso;clear hq aw hnx h1' h3 k2 k8;lia)
      | exact⟨by show k+1≤3;omega,by show 3-(k+1)<3-k;omega⟩
     all_goals first
      | (rename_i y ey;subst ey;(repeat' apply And.intro)<;>first|exact True.intro|exact WkR.refl _|rfl|exact hkI2|(dsimp only;clear hq aw hnx h1' h3 k2 k8;lia)|trace_state)
      | trace_state
    ·rw[if_neg hid] at hR2
     have k2:=dapply_ok O _ q2 hnx.few (by omega) hAs.light _ _ hR2
     clear hAs hok hR2 hv2 hb256
     obtain⟨qc2,qi2,⟨kind2,key2,to2,doc2,want2,has2,n2,most2,ops2,ods2,ons2⟩⟩:=q2
     replace hid:¬ qi2=v2:=hid
     (repeat' first|(refine Named.at' bI hbI ?_;cbv)|(refine Named.at' LI hLI ?_;cbv)|(refine Named.at' jI hjI ?_;cbv)|(refine Named.at' kI hkI ?_;cbv)|(refine Na ?_ fun _ _=>?_;(focus lia);cbv)|(refine Ex.known O bytR rfl hb ?_ ?_;(focus lia);cbv)|(refine Ex.known O (Reqn.en O) rfl hq2 ?_ ?_;(focus lia);cbv)|(refine CallThen.mk _ _ (C.fn (k2)) ?_;cbv)|(refine CallThen.mk _ _ (C.fn (k8)) ?_;cbv)|(refine Ex.mk (.int .i64 v2) h3 ?_;cbv)|(refine Back.to (k+1) [] [] ?_ fun _ _=>?_;rotate_left;cbv)|(refine Nl fun _ _ hq=>?_;(try simp only [lenS] at hq);cbv)|(refine Nm fun _ _=>?_;cbv)|(refine Br.t ?_ ?_;(focus first|assumption|lia);cbv)|(refine Br.f ?_ ?_;(focus first|assumption|lia);cbv)|(refine Br.mk (fun _=>?_) (fun _=>?_)<;>cbv)|(refine Need.mk ?_ ?_;rotate_left;cbv)|(refine R0 ?_;cbv))
     all_goals try first
      | exact hx1
      | exact hx2
      | exact hLI0
      | (exfalso;clear hq aw hnx h1' h3 k2 k8;lia)
      | exact⟨by show k+1≤3;omega,by show 3-(k+1)<3-k;omega⟩
     all_goals first
      | (rename_i y ey;subst ey;(repeat' apply And.intro)<;>first|exact True.intro|exact WkR.refl _|rfl|exact hkI2|(dsimp only;clear hq aw hnx h1' h3 k2 k8;lia)|trace_state)
      | trace_state
   ·(repeat' first|(refine Na ?_ fun _ _=>?_;(focus lia);cbv)|(refine Back.to ⟨i+1,⟨docs',⟨base',total',chs',subs'⟩,l'⟩,es1,f1,qs1,tl1⟩ [(50,.loc 6784),(51,.loc 7040)] [] ?_ fun _ _=>?_;rotate_left;cbv)|(refine Nl fun _ _ hq=>?_;(try simp only [lenS] at hq);cbv)|(refine Nm fun _ _=>?_;cbv)|(refine Br.t ?_ ?_;(focus first|assumption|lia);cbv)|(refine Br.f ?_ ?_;(focus first|assumption|lia);cbv)|(refine Br.mk (fun _=>?_) (fun _=>?_)<;>cbv)|(refine Need.mk ?_ ?_;rotate_left;cbv)|(refine R0 ?_;cbv))
    all_goals try first
     | (exfalso;clear hq aw hnx h1';lia)
     | exact⟨⟨by show i+1≤N;omega,by show i+1≤25;omega,hnx,h1'⟩,by show N-(i+1)<N-i;omega⟩
    all_goals first
     | (rename_i y ey;subst ey;(repeat' apply And.intro)<;>first|exact True.intro|exact WkR.refl _|rfl|(dsimp only;clear hq aw hnx h1';lia)|trace_state)
     | trace_state
  ·clear i3
   cases h1:O.o lightO q.op<;>cases h2:O.o turnsB q.op.kind
   all_goals rw[h1] at g2
   all_goals rw[h2] at t2
   all_goals try(exfalso;rw[O.h] at h1 h2;exact hlt ⟨h1,h2⟩)
   all_goals
    clear hlt h1 h2
    obtain⟨docs,⟨base,total,chs,subs⟩,ll⟩:=d
    obtain⟨qc,qi,⟨kind,key,to,doc,want,has,n,most,ops,ods,ons⟩⟩:=q
    (repeat' first|(refine Na ?_ fun _ _=>?_;(focus lia);cbv)|(refine Ex.known O (Reqn.en O) rfl hq ?_ ?_;(focus lia);cbv)|(refine CallThen.mk _ _ (C.fn (g2)) ?_;cbv)|(refine CallThen.mk _ _ (C.fn (t2)) ?_;cbv)|(refine Back.to ⟨i+1,⟨docs,⟨base,total,chs,subs⟩,ll⟩,es,f,qs,tl⟩ [] [] ?_ fun _ _=>?_;rotate_left;cbv)|(refine Nl fun _ _ hq=>?_;(try simp only [lenS] at hq);cbv)|(refine Nm fun _ _=>?_;cbv)|(refine Br.t ?_ ?_;(focus first|assumption|lia);cbv)|(refine Br.f ?_ ?_;(focus first|assumption|lia);cbv)|(refine Br.mk (fun _=>?_) (fun _=>?_)<;>cbv)|(refine Need.mk ?_ ?_;rotate_left;cbv)|(refine R0 ?_;cbv))
    all_goals try first
     | (exfalso;clear hq g2 t2 aw hstay i4;lia)
     | exact⟨⟨by show i+1≤N;omega,by show i+1≤25;omega,hstay,i4⟩,by show N-(i+1)<N-i;omega⟩
    all_goals first
     | (rename_i y ey;subst ey;(repeat' apply And.intro)<;>first|exact True.intro|exact WkR.refl _|rfl|(dsimp only;clear hq g2 t2 aw hstay i4;lia)|trace_state)
     | trace_state
 ·have k8:=DepSz.same O (i3.few.sz (by omega))
  clear i3 i4
  obtain⟨docs,⟨base,total,chs,subs⟩,ll⟩:=d
  (repeat' first|(refine Na ?_ fun _ _=>?_;(focus lia);cbv)|(refine CallThen.mk _ _ (C.fn (k8)) ?_;cbv)|(refine CallThen.mk _ _ (C.fn (aw)) ?_;cbv)|(refine Nl fun _ _ hq=>?_;(try simp only [lenS] at hq);cbv)|(refine Nm fun _ _=>?_;cbv)|(refine Br.t ?_ ?_;(focus first|assumption|lia);cbv)|(refine Br.f ?_ ?_;(focus first|assumption|lia);cbv)|(refine Br.mk (fun _=>?_) (fun _=>?_)<;>cbv)|(refine Need.mk ?_ ?_;rotate_left;cbv)|(refine R0 ?_;cbv))
  all_goals first
   | exact⟨rfl,trivial⟩
   | (exfalso;lia)
   | trace_state
open Go Go.Proofs Go.Proofs.Tryz
theorem cDeO1:prog.cellsOf 5=1:=by decide +kernel
theorem shape_byt {n:Nat} {xs:List PV} (h:shape prog n 5 xs):∃ b:Nat,xs=bytR b∧b<256:=by
 cases n with
 | zero=>exact h.elim
 | succ n =>
  simp only [shape,Tryz.underlying5] at h
  obtain⟨m,rfl,hm⟩:=h
  simp only [Lit.wf,Bool.and_eq_true,decide_eq_true_eq] at hm
  obtain⟨h1,h2⟩:=hm
  have h1:(0:Int)≤m:=h1
  have h2:m≤255:=h2
  obtain⟨b,rfl⟩:∃ b:Nat,m=b:=⟨m.toNat,by omega⟩
  exact⟨b,rfl,by omega⟩
theorem shape_byts {n:Nat} {x:PV} (h:shape prog n 40 [x]):∃ l:List Nat,Wk (.sl false 0 false 1 (bytsR l)) x∧l.length≤9223372036854775807∧∀ b∈l,b<256:=by
 cases n with
 | zero=>exact h.elim
 | succ n =>
  simp only [shape,Tryz.underlying40,cDeO1] at h
  rcases h with h | ⟨rows,h,hl,hr⟩
  ·cases h
   exact⟨[],.nil _ _,by simp,by simp⟩
  ·cases h
   obtain⟨l,rfl,hd⟩:=rows_of (fun r hr=>shape_byt hr) hr
   exact⟨l,.sl' rfl rfl (.refl _),by simpa [maxLen] using hl,hd⟩
theorem depotOnce_law {n1:Nat} {x1:PV} {n2:Nat} {x2:PV} (s1:shape prog n1 39 [x1]) (s2:shape prog n2 40 [x2]):Fn prog 5 [x1,x2] [] [.bool true] []:=by
 obtain⟨l,wl,l1,l2⟩:=shape_reqns s1
 obtain⟨ag,wag,a1,a2⟩:=shape_byts s2
 have h:=depotOnce_fn Opq.id l ag l1 a1 a2
 have e:Opq.id.o (Rqs.enc Opq.id) l=l.map (Reqn.ens Opq.id):=List.map_congr_left fun q _=>Reqn.en_eq Opq.id q
 rw[e] at h
 exact h.wkA (.cons (.wk wl) (.cons (.wk wag) .nil))
end Go.Sym
