/- Depots alike, as both tell it; light ones. -/
import Derived.Test.YthaaoongjcmleaaGreatDoorK23
import Derived.Test.YthaaoongjcmleaaGreatDoorK21
set_option linter.all false
set_option linter.unusedVariables false
set_option linter.unusedSimpArgs false
namespace Go.Sym
open Go Go.Proofs.Tryz
set_option maxRecDepth 100000
structure DepSz (d:Depot) (m:Nat):Prop where
 docs:d.docs.length≤m∧∀ n∈d.docs,n.doc.length≤m
 chs:d.feed.changes.length≤m∧∀ c∈d.feed.changes,c.doc.length≤m
 subs:d.feed.subs.length≤m
 last:d.last.length≤m∧∀ x∈d.last,AnsIn x.answer m
set_option maxHeartbeats 4000000 in
theorem rsame14_fn (O:Opq) (a b:Depot) (h:DepSz a 1099511627776):Fn prog 22 [.agg (a.enc O),.agg (b.enc O)] [] [.bool (O.o sameDp a b)] []:=by
 have k1:=rsameF_fn O a.feed b.feed h.chs.1 h.subs h.chs.2
 have k2:=r12docs_fn O a.docs b.docs (by have:=h.docs.1;omega) (fun c hc=>by have:=h.docs.2 c hc;omega)
 have hla:=h.last
 have hlen:=Lasts.len O a.last
 have hlen2:=Lasts.len O b.last
 have hQ:O.o sameDp a b=true ↔ O.o sameF a.feed b.feed=true∧O.o sameNs a.docs b.docs=true∧a.last=b.last:=by
  simp only [O.h,sameDp_iff,sameF_iff,sameNs,decide_eq_true_eq,Depot.ext']
  exact⟨fun⟨x,y,z⟩=>⟨y,x,z⟩,fun⟨y,x,z⟩=>⟨x,y,z⟩⟩
 obtain⟨s1,e1⟩:∃ s,s=O.o sameF a.feed b.feed:=⟨_,rfl⟩
 obtain⟨s2,e2⟩:∃ s,s=O.o sameNs a.docs b.docs:=⟨_,rfl⟩
 obtain⟨Q,eQ⟩:∃ s,s=O.o sameDp a b:=⟨_,rfl⟩
 rw[← e1] at k1 hQ
 rw[← e2] at k2 hQ
 rw[← eQ] at hQ ⊢
 clear e1 e2 eQ h
 obtain⟨docs,⟨base,total,chs,subs⟩,l⟩:=a
 obtain⟨docs',⟨base',total',chs',subs'⟩,l'⟩:=b
 replace hla:l.length≤1099511627776∧∀ x∈l,AnsIn x.answer 1099511627776:=hla
 replace hlen:(O.o (Lasts.enc O) l).length=l.length:=hlen
 replace hlen2:(O.o (Lasts.enc O) l').length=l'.length:=hlen2
 replace hQ:Q=true ↔ s1=true∧s2=true∧l=l':=hQ
 by_cases hg:s1=true∧s2=true∧l.length=l'.length
 ·obtain⟨g1,g2,g3⟩:=hg
  subst g1;subst g2
  have hyes:l=l'→Q=true:=fun h=>hQ.2 ⟨rfl,rfl,h⟩
  have hno:l≠l'→Q=false:=fun h=>by
   cases hb:Q with
   | false=>rfl
   | true=>exact absurd (hQ.1 hb).2.2 h
  clear hQ
  obtain⟨hl1,hl2⟩:=hla
  obtain⟨N,hN⟩:∃ N:Nat,N=l.length:=⟨_,rfl⟩
  obtain⟨z,hz⟩:∃ z:Nat,z=0:=⟨_,rfl⟩
  refine go (fn:=Proofs.Tryz.f22) (n:=78) (rv:=[ResultVar.tmp 4]) rfl (by decide) rfl (by decide +kernel) rfl rfl (by simp) fun F L C=>?_
  cbv
  (repeat' first|(refine Na ?_ fun _ _=>?_;(focus lia);cbv)|(refine CallThen.mk _ _ (C.fn (k1)) ?_;cbv)|(refine CallThen.mk _ _ (C.fn (k2)) ?_;cbv)|(refine Nl fun _ _ hq=>?_;(try simp only [lenS] at hq);cbv)|(refine Nm fun _ _=>?_;cbv)|(refine Br.t ?_ ?_;(focus first|assumption|lia);cbv)|(refine Br.f ?_ ?_;(focus first|assumption|lia);cbv)|(refine Br.mk (fun _=>?_) (fun _=>?_)<;>cbv)|(refine Need.mk ?_ ?_;rotate_left;cbv)|(refine R0 ?_;cbv))
  all_goals try(exfalso;clear k1 k2;lia)
  clear k1 k2
  refine LoopThen.mk (C.loopAt (ι:=Nat) [(4,5),(29,79)] (fun k=>[(4,.bool false),(5,.int .i64 k)]) (fun _=>[(256,.box [.sl false 0 false 2 (O.o (Nms.enc O) docs),.int .i64 base,.int .i64 total,.sl false 0 false 4 (O.o (Chs.enc O) chs),.sl false 0 false 2 (O.o Subs.enc subs),.sl false 0 false 10 (O.o (Lasts.enc O) l)]),(320,.box [.sl false 0 false 2 (O.o (Nms.enc O) docs'),.int .i64 base',.int .i64 total',.sl false 0 false 4 (O.o (Chs.enc O) chs'),.sl false 0 false 2 (O.o Subs.enc subs'),.sl false 0 false 10 (O.o (Lasts.enc O) l')])])
   (fun k=>k≤N∧∀ (j:Nat),j<k→l[j]?=l'[j]?) (fun k=>N-k) (by decide +kernel) (Start.mk z [] [] ⟨by omega,fun j hj=>by omega⟩ ?_) ?_)
  ·cbv
   (repeat' apply And.intro)<;>first|exact True.intro|exact WkR.refl _|rfl|lia|trace_state
  intro k g
  cbv
  have g1:k≤N:=g.1
  have g2:=g.2
  clear g
  by_cases hk:k<l.length
  ·obtain⟨x,hx⟩:∃ x,l[k]?=some x:=⟨l[k],by simp [hk]⟩
   obtain⟨y,hy⟩:∃ y,l'[k]?=some y:=⟨l'[k]'(by omega),by simp⟩
   have hx2:=hl2 x (List.mem_of_getElem? hx)
   have k5:=ransw_fn O x.answer y.answer (by have:=hx2.doc;omega) ⟨by have:=hx2.docs.1;omega,fun c hc=>by have:=hx2.docs.2 c hc;omega⟩ ⟨by have:=hx2.news.1;omega,fun c hc=>by have:=hx2.news.2 c hc;omega⟩ (by have:=hx2.keys;omega)
   have hno:¬ (x.client=y.client∧x.id=y.id∧O.o sameAns x.answer y.answer=true)→Q=false:=fun h=>hno fun e=>h (by
    rw[e,hy] at hx
    have:=Option.some.inj hx
    subst this
    exact⟨rfl,rfl,by rw[O.h,sameAns];simp⟩)
   have hst:x.client=y.client→x.id=y.id→O.o sameAns x.answer y.answer=true→∀ (j:Nat),j<k+1→l[j]?=l'[j]?:=fun e1 e2 e3 j hj=>by
    by_cases ej:j=k
    ·subst ej
     rw[hx,hy]
     rw[O.h,sameAns] at e3
     simp only [decide_eq_true_eq] at e3
     obtain⟨a,b,c⟩:=x
     obtain⟨a',b',c'⟩:=y
     simp only at e1 e2 e3
     rw[e1,e2,e3]
    ·exact g2 j (by omega)
   obtain⟨S,eS⟩:∃ s,s=O.o sameAns x.answer y.answer:=⟨_,rfl⟩
   rw[← eS] at k5 hno hst
   clear eS g2 hyes hl2 hx2
   obtain⟨xc,xi,⟨ac,ah,ad,ads,ans,an,at',ak⟩⟩:=x
   obtain⟨yc,yi,⟨bc,bh,bd,bds,bns,bn,bt,bk⟩⟩:=y
   replace hno:¬ (xc=yc∧xi=yi∧S=true)→Q=false:=hno
   replace hst:xc=yc→xi=yi→S=true→∀ (j:Nat),j<k+1→l[j]?=l'[j]?:=hst
   cases S
   all_goals
    (repeat' first|(refine Na ?_ fun _ _=>?_;(focus lia);cbv)|(refine Ex.known O (LastR.enc O) rfl hx ?_ ?_;(focus lia);cbv)|(refine Ex.known O (LastR.enc O) rfl hy ?_ ?_;(focus lia);cbv)|(refine CallThen.mk _ _ (C.fn (k5)) ?_;cbv)|(refine Back.up [] [] ?_ ?_ fun _ _=>?_;rotate_left 2;cbv;refine And.intro ?_ ?_)|(refine Nl fun _ _ hq=>?_;(try simp only [lenS] at hq);cbv)|(refine Nm fun _ _=>?_;cbv)|(refine Br.t ?_ ?_;(focus first|assumption|lia);cbv)|(refine Br.f ?_ ?_;(focus first|assumption|lia);cbv)|(refine Br.mk (fun _=>?_) (fun _=>?_)<;>cbv)|(refine Need.mk ?_ ?_;rotate_left;cbv)|(refine R0 ?_;cbv))
    all_goals(repeat' apply And.intro)
    all_goals try first
     | exact True.intro
     | exact WkR.refl _
     | (clear hx hy hno hst k5;lia)
    all_goals first
     | (refine hst ?_ ?_ rfl<;>(clear hx hy hno hst k5;lia))
     | (refine hno fun h=>?_;clear hx hy hno hst k5;first|lia|(simp_all;done))
     | trace_state
  ·have hq:=hyes (List.ext_getElem? fun j=>by
    by_cases hj:j<l.length
    ·exact g2 j (by omega)
    ·rw[List.getElem?_eq_none (by omega),List.getElem?_eq_none (by omega)])
   clear hyes hno g2 hl2
   (repeat' first|(refine Na ?_ fun _ _=>?_;(focus lia);cbv)|(refine Nl fun _ _ hq=>?_;(try simp only [lenS] at hq);cbv)|(refine Nm fun _ _=>?_;cbv)|(refine Br.t ?_ ?_;(focus first|assumption|lia);cbv)|(refine Br.f ?_ ?_;(focus first|assumption|lia);cbv)|(refine Br.mk (fun _=>?_) (fun _=>?_)<;>cbv)|(refine Need.mk ?_ ?_;rotate_left;cbv)|(refine R0 ?_;cbv))
   all_goals first
    | exact⟨hq,trivial⟩
    | exact⟨hq.symm,trivial⟩
    | (exfalso;lia)
    | trace_state
 ·have hq:Q=false:=by
   cases hb:Q with
   | false=>rfl
   | true =>
    obtain⟨a,b,c⟩:=hQ.1 hb
    exact absurd ⟨a,b,by rw[c]⟩ hg
  clear hQ
  subst hq
  cases s1<;>cases s2
  all_goals
   refine go (fn:=Proofs.Tryz.f22) (n:=78) (rv:=[ResultVar.tmp 4]) rfl (by decide) rfl (by decide +kernel) rfl rfl (by simp) fun F L C=>?_
   cbv
   (repeat' first|(refine Na ?_ fun _ _=>?_;(focus lia);cbv)|(refine CallThen.mk _ _ (C.fn (k1)) ?_;cbv)|(refine CallThen.mk _ _ (C.fn (k2)) ?_;cbv)|(refine Nl fun _ _ hq=>?_;(try simp only [lenS] at hq);cbv)|(refine Nm fun _ _=>?_;cbv)|(refine Br.t ?_ ?_;(focus first|assumption|lia);cbv)|(refine Br.f ?_ ?_;(focus first|assumption|lia);cbv)|(refine Br.mk (fun _=>?_) (fun _=>?_)<;>cbv)|(refine Need.mk ?_ ?_;rotate_left;cbv)|(refine R0 ?_;cbv))
   all_goals first
    | exact⟨rfl,trivial⟩
    | (exfalso;clear k1 k2;refine hg ⟨rfl,rfl,?_⟩;lia)
    | trace_state
open Go
theorem few_turn {d:Depot} (o:Opn) (hd:mayD d.docs=true):FewA (turnR d o).2:=by
 unfold turnR
 split
 ·exact few_ref _
 ·split
  ·exact few_ref _
  ·split
   ·exact few_ref _
   ·split
    ·exact few_ref _
    ·split
     ·exact few_ref _
     ·obtain⟨R1,R2,R3,hR⟩:∃ R1 R2 R3,applyR d.docs o d.feed.total=(R1,R2,R3):=⟨_,_,_,rfl⟩
      obtain⟨_,_,_,_,_,h6⟩:=applyR_ok o _ hd hR
      rw[hR];exact few_small hd h6
theorem pullF_in {f:Feed} {a m:Int}:∀ c∈pullF f a m,c∈f.changes:=fun c hc=>List.mem_of_mem_drop (List.mem_of_mem_take hc)
theorem pullR_few {f:Feed} {a m:Int} (hf:mayF f=true):(pullR f a m).length≤16∧∀ c∈pullR f a m,c.doc.length≤16:=by
 rw[pullR]
 split
 ·rename_i h
  have hm:m≤16:=by
   rw[pullE] at h
   split at h
   ·rename_i k;exact k.2.2.1
   ·cases h
  refine⟨by rw[pullF,List.length_take];omega,fun c hc=>?_⟩
  obtain⟨i,hi,rfl⟩:=List.getElem_of_mem (pullF_in c hc)
  exact may_len ((mayF_iff.1 hf).2.1 i _ hi (List.getElem?_eq_getElem hi)).2.2.1
 ·simp
theorem readR_few {f:Feed} {n:ByteArray} {m:Int} (hf:mayF f=true):(readR f n m).length≤16∧∀ c∈readR f n m,c.doc.length≤16:=by
 cases g:getK Sub.name f.subs n with
 | false=>rw[(readE_none hf g).2.1];simp
 | true=>rw[(readE_at hf g).2.1];exact pullR_few hf
theorem few_reads {d:Depot} (o:Opn) (hd:mayD d.docs=true) (hf:mayF d.feed=true):FewA (readsA d o):=by
 rw[readsA]
 split
 ·obtain⟨R1,R2,R3,hR⟩:∃ R1 R2 R3,applyR d.docs o 0=(R1,R2,R3):=⟨_,_,_,rfl⟩
  obtain⟨_,_,_,_,_,h6⟩:=applyR_ok o _ hd hR
  rw[hR];exact few_small hd h6
 ·split
  ·split
   ·have:=readR_few (f:=d.feed) (n:=o.key) (m:=o.most) hf
    exact⟨by simp,by simp,⟨by show(readR _ _ _).length≤60;omega,fun c hc=>by have:=this.2 c hc;omega⟩,by simp⟩
   ·exact few_ref _
  ·split
   ·split
    ·have:=pullR_few (f:=d.feed) (a:=o.n) (m:=o.most) hf
     exact⟨by simp,by simp,⟨by show(pullR _ _ _).length≤60;omega,fun c hc=>by have:=this.2 c hc;omega⟩,by simp⟩
    ·exact few_ref _
   ·split
    ·have m:=mayD_iff.1 hd
     exact⟨by simp,⟨by show d.docs.length≤40;omega,fun c hc=>by have:=may_len (m.2.1 c hc).2;omega⟩,by simp,by simp⟩
    ·exact few_ref _
structure DepFew (d:Depot) (m:Nat):Prop where
 may:mayDp d=true
 chs:d.feed.changes.length≤m
 last:∀ x∈d.last,FewA x.answer
theorem turnR_chs {d:Depot} (o:Opn) (hd:mayD d.docs=true) (hf:mayF d.feed=true):(turnR d o).1.feed.changes.length≤d.feed.changes.length+4:=by
 unfold turnR
 split
 ·rcases openR_in (f:=d.feed) (n:=o.key) (a:=o.n) with h|h<;>(show(openR _ _ _).changes.length≤_;rw[h];simp)
 ·split
  ·rcases ackR_in (f:=d.feed) (n:=o.key) (a:=o.n) with h|h<;>(show(ackR _ _ _).changes.length≤_;rw[h];simp)
  ·split
   ·rcases closeR_in (f:=d.feed) (n:=o.key) with h|h<;>(show(closeR _ _).changes.length≤_;rw[h];simp)
   ·split
    ·have:=trimR_len (f:=d.feed) (p:=o.n)
     show(trimR _ _).changes.length≤_;omega
    ·split
     ·show d.feed.changes.length≤_;omega
     ·rename_i ht
      obtain⟨R1,R2,R3,hR⟩:∃ R1 R2 R3,applyR d.docs o d.feed.total=(R1,R2,R3):=⟨_,_,_,rfl⟩
      obtain⟨h1,_,h3,h4,h5,_⟩:=applyR_ok o _ hd hR
      rw[hR]
      show(addR d.feed R3).changes.length≤_
      rw[(add_ok hf h3 h4 (by omega)).2]
      show(d.feed.changes++R3).length≤_
      rw[List.length_append];omega
theorem toldL_few {l:List LastR} {c i:Int} {a:Answer} (hs:sortedL l) (h:∀ x∈l,FewA x.answer) (ht:toldL l c i=some a):FewA a:=by
 unfold toldL at ht
 split at ht
 ·cases ht;exact few_ref _
 ·split at ht
  ·rename_i k
   cases ht
   obtain⟨x,hx,_⟩:=posL_there hs k.1
   rw[lastA_at hx];exact h x (List.mem_of_getElem? hx)
  ·split at ht
   ·cases ht;exact few_ref _
   ·split at ht
    ·cases ht;exact few_ref _
    ·cases ht
theorem depotR_few {d : Depot} {m : Nat} (q : Reqn) (h : DepFew d m) : DepFew (depotR d q).1 (m + 4) ∧ FewA (depotR d q).2 := by
  obtain ⟨h1, h2, h3⟩ := mayDp_iff.1 h.may
  have hs := (lastsOk_iff.1 h3).2.2
  have hm := depotR_may q h.may
  have t1 := turnR_may q.op h1 h2
  have t2 := turnR_chs q.op h1 h2
  have t3 := few_turn q.op h1
  have hc := h.chs
  suffices H : (depotR d q).1.feed.changes.length ≤ m + 4 ∧ (∀ x ∈ (depotR d q).1.last, FewA x.answer) ∧ FewA (depotR d q).2 from ⟨⟨hm, H.1, H.2.1⟩, H.2.2⟩
  clear hm
  unfold depotR
  split
  · exact ⟨by show d.feed.changes.length ≤ _; omega, h.last, few_reads _ h1 h2⟩
  · split
    · exact ⟨by omega, by rw [t1.2.2]; exact h.last, t3⟩
    · split
      · rename_i a ha
        exact ⟨by show d.feed.changes.length ≤ _; omega, h.last, toldL_few hs h.last ha⟩
      · refine ⟨by show (turnR d q.op).1.feed.changes.length ≤ _; omega, fun x hx => ?_, t3⟩
        rcases putL_mem hx with rfl | hx
        · exact t3
        · exact h.last x hx
/-! the laws' own small question -/
def putO:Opn:=.mk 1 tx ByteArray.empty [] [] false 0 0 [] [] []
def req0:Reqn:=⟨5,1,putO⟩
def dep1:Depot:=⟨[⟨tx,[]⟩],⟨0,1,[⟨1,tx,true,[]⟩],[]⟩,[⟨5,1,answerN 1⟩]⟩
theorem light_nil:lightD []=true:=by
 have:numB 0=[UInt8.ofNat 0]:=numB_lo (by decide)
 rw[lightD,may_nil,Bool.true_and,decide_eq_true_eq]
 simp [docC,listC,putC,putCs,this]
theorem put_no:writeA [] putO=ans0:=by
 rw[writeA,if_neg (by simp [putO,Opn.key,key_tx]),if_neg (by simp [putO,Opn.kind]),if_neg (by simp [putO,Opn.doc,Opn.kind,may_nil]),if_neg (by simp [putO,Opn.kind]),if_neg (by simp [putO,Opn.doc,light_nil]),if_neg (by simp)]
theorem put_run:applyR [] putO 0=([⟨tx,[]⟩],answerN 1,[⟨1,tx,true,[]⟩]):=by
 have hw:writesB putO=true:=by simp [writesB,putO,Opn.kind]
 rw[applyR,if_pos hw,batchR,if_neg (by simp [notWrites,hw]),runB,if_neg (by simp [put_no,ans0]),runB]
 simp [foldD,writeC,putO,Opn.kind,Opn.key,Opn.doc,getK_no,insK,answerN]
theorem zeroF_may:mayF zeroF=true:=may_zeroF
theorem dep_first:depotR zeroD req0=(dep1,answerN 1):=by
 have ht:turnsB req0.op.kind=true:=by simp [turnsB,req0,putO,Opn.kind]
 have hT:turnR zeroD req0.op=(⟨[⟨tx,[]⟩],⟨0,1,[⟨1,tx,true,[]⟩],[]⟩,[]⟩,answerN 1):=by
  have hk:req0.op.kind=1:=rfl
  rw[turnR,if_neg (by omega),if_neg (by omega),if_neg (by omega),if_neg (by omega),if_neg (by simp [zeroD,zeroF])]
  have e:applyR zeroD.docs req0.op zeroD.feed.total=([⟨tx,[]⟩],answerN 1,[⟨1,tx,true,[]⟩]):=put_run
  rw[e]
  have:=add_ok (f:=zeroF) (l:=[⟨1,tx,true,[]⟩]) zeroF_may (by
   intro i c hc
   match i,hc with
   | 0,hc=>simp at hc;subst hc;rfl) (by
   intro c hc
   simp at hc;subst hc
   exact⟨key_tx,may_nil,.inl rfl⟩) (by simp [zeroF])
  show((⟨[⟨tx,[]⟩],addR zeroF [⟨1,tx,true,[]⟩],[]⟩:Depot),answerN 1)=_
  rw[this.2]
  simp [addF,zeroF]
 have hn:toldL zeroD.last req0.client req0.id=none:=by
  have hg:getL zeroD.last req0.client=false:=rfl
  rw[toldL,if_neg (by simp [countB,req0]),if_neg (by simp [hg]),if_neg (by simp [hg]),if_neg (by simp [zeroD])]
 rw[depotR,if_neg (by simp [ht]),if_neg (by simp [req0]),hn,hT]
 rfl
theorem dep1_may:mayDp dep1=true:=by
 have:=depotR_may (d:=zeroD) req0 (mayDp_iff.2 ⟨mayD_no,zeroF_may,lastsOk_iff.2 ⟨by simp [zeroD],by simp [zeroD],List.Pairwise.nil⟩⟩)
 rwa [dep_first] at this
theorem zeroD_may:mayDp zeroD=true:=mayDp_iff.2 ⟨mayD_no,zeroF_may,lastsOk_iff.2 ⟨by simp [zeroD],by simp [zeroD],List.Pairwise.nil⟩⟩
theorem few_ansN (n:Int):FewA (answerN n):=⟨by simp [answerN],by simp [answerN],by simp [answerN],by simp [answerN]⟩
theorem zeroD_few:DepFew zeroD 0:=⟨zeroD_may,by simp [zeroD,zeroF],by simp [zeroD]⟩
theorem dep1_few:DepFew dep1 1:=⟨dep1_may,by simp [dep1],by intro x hx;simp [dep1] at hx;subst hx;exact few_ansN 1⟩
theorem dep_again:depotR dep1 req0=(dep1,answerN 1):=by
 have ht:turnsB req0.op.kind=true:=by simp [turnsB,req0,putO,Opn.kind]
 have hg:getL dep1.last req0.client=true:=by simp [dep1,req0,getL,hasL]
 have hl:lastA dep1.last req0.client=⟨5,1,answerN 1⟩:=lastA_at (by simp [dep1,req0,posL])
 have hn:toldL dep1.last req0.client req0.id=some (answerN 1):=by
  rw[toldL,if_neg (by simp [countB,req0]),if_pos ⟨hg,by rw[hl];rfl⟩,hl]
 rw[depotR,if_neg (by simp [ht]),if_neg (by simp [req0]),hn]
end Go.Sym
