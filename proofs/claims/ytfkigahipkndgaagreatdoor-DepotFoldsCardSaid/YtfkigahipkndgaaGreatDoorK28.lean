/- Depots alike; light ones; which may be, by the document. -/
import Derived.Test.YtfkigahipkndgaaGreatDoorK26
set_option linter.all false
set_option linter.unusedVariables false
set_option linter.unusedSimpArgs false
namespace Go.Sym
open Go Go.Proofs.Tryz
set_option maxRecDepth 100000
set_option maxHeartbeats 4000000 in
theorem rmay14_fn (O:Opq) (d:Depot) (h1:d.docs.length≤1099511627∧∀ n∈d.docs,n.doc.length≤1099511627∧∀ f∈n.doc,f.path.size≤9223372036854775807) (h2:d.feed.changes.length≤1099511627∧d.feed.subs.length≤1099511627∧∀ c∈d.feed.changes,c.doc.length≤1099511627776∧∀ x∈c.doc,x.path.size≤9223372036854775807) (h3:d.last.length≤9223372036854775807) :
  Fn prog 37 [.agg (d.enc O)] [] [.bool (O.o mayDp d)] []:=by
 have k1:=r12may_fn O d.docs (by omega) (fun n hn=>by have:=h1.2 n hn;exact⟨by omega,this.2⟩)
 have k2:=rmayF_fn O d.feed (by omega) (by omega) h2.2.2
 have hlen:=Lasts.len O d.last
 have hy:O.o mayD d.docs=true→O.o mayF d.feed=true→lastsOk d.last=true→O.o mayDp d=true:=fun a b c=>by
  rw[O.h] at a b ⊢
  exact mayDp_iff.2 ⟨a,b,c⟩
 have hn:¬ (O.o mayD d.docs=true∧O.o mayF d.feed=true∧lastsOk d.last=true)→O.o mayDp d=false:=fun h=>by
  simp only [O.h] at h ⊢
  cases hm:mayDp d with
  | false=>rfl
  | true=>exact absurd (mayDp_iff.1 hm) h
 obtain⟨Q,eQ⟩:∃ Q,Q=O.o mayDp d:=⟨_,rfl⟩
 obtain⟨e1,ee1⟩:∃ Q,Q=O.o mayD d.docs:=⟨_,rfl⟩
 obtain⟨e2,ee2⟩:∃ Q,Q=O.o mayF d.feed:=⟨_,rfl⟩
 rw[← ee1] at k1 hy hn
 rw[← ee2] at k2 hy hn
 rw[← eQ] at hy hn ⊢
 clear eQ ee1 ee2 h1 h2
 obtain⟨docs,⟨base,total,chs,subs⟩,l⟩:=d
 replace hlen:(O.o (Lasts.enc O) l).length=l.length:=hlen
 replace h3:l.length≤9223372036854775807:=h3
 replace hy:e1=true→e2=true→lastsOk l=true→Q=true:=hy
 replace hn:¬ (e1=true∧e2=true∧lastsOk l=true)→Q=false:=hn
 by_cases hg:e1=true∧e2=true∧l.length≤8
 ·obtain⟨g1,g2,g3⟩:=hg
  subst g1;subst g2
  have hy:=fun h=>hy rfl rfl h
  have hn:lastsOk l=false→Q=false:=fun h=>hn fun k=>by rw[h] at k;cases k.2.2
  obtain⟨N,hN⟩:∃ N:Nat,N=l.length:=⟨_,rfl⟩
  obtain⟨z,hz⟩:∃ z:Nat,z=0:=⟨_,rfl⟩
  refine go (fn:=Proofs.Tryz.f37) (n:=64) (rv:=[ResultVar.tmp 2]) rfl (by decide) rfl (by decide +kernel) rfl rfl (by simp) fun F L C=>?_
  cbv
  (repeat' first|(refine Na ?_ fun _ _=>?_;(focus lia);cbv)|(refine CallThen.mk _ _ (C.fn (k1)) ?_;cbv)|(refine CallThen.mk _ _ (C.fn (k2)) ?_;cbv)|(refine Nl fun _ _ hq=>?_;(try simp only [lenS] at hq);cbv)|(refine Nm fun _ _=>?_;cbv)|(refine Br.t ?_ ?_;(focus first|assumption|lia);cbv)|(refine Br.f ?_ ?_;(focus first|assumption|lia);cbv)|(refine Br.mk (fun _=>?_) (fun _=>?_)<;>cbv)|(refine Need.mk ?_ ?_;rotate_left;cbv)|(refine R0 ?_;cbv))
  all_goals try(exfalso;clear k1 k2 hy hn;lia)
  clear k1 k2
  refine LoopThen.mk (C.loopAt (ι:=Nat) [(2,3),(20,64)] (fun k=>[(2,.bool false),(3,.int .i64 k)]) (fun _=>[(192,.box [.sl false 0 false 2 (O.o (Nms.enc O) docs),.int .i64 base,.int .i64 total,.sl false 0 false 4 (O.o (Chs.enc O) chs),.sl false 0 false 2 (O.o Subs.enc subs),.sl false 0 false 10 (O.o (Lasts.enc O) l)])])
   (fun k=>k≤N∧∀ i,i<k→okLast l i) (fun k=>N-k) (by decide +kernel) (Start.mk z [] [] ⟨by omega,fun i hi=>by omega⟩ ?_) ?_)
  ·cbv
   (repeat' apply And.intro)<;>first|exact True.intro|exact WkR.refl _|rfl|lia|trace_state
  intro k g
  cbv
  have g1:k≤N:=g.1
  have g2:=g.2
  clear g
  by_cases hk:k<l.length
  ·obtain⟨x,hx⟩:∃ x,l[k]?=some x:=⟨l[k],by simp [hk]⟩
   have c1:=rcount_fn O x.client
   have c2:=rcount_fn O x.id
   obtain⟨y,hyk,hyc⟩:∃ y:LastR,(0<k→l[k-1]?=some y)∧((0<k→∃ g,l[k-1]?=some g∧g.client<x.client) ↔ (0<k→y.client<x.client)):=by
    by_cases h0:0<k
    ·refine⟨l[k-1],fun _=>by simp,?_⟩
     rw[List.getElem?_eq_getElem (by omega)]
     exact⟨fun h _=>by obtain⟨g,e,h⟩:=h h0;cases e;exact h,fun h _=>⟨_,rfl,h h0⟩⟩
    ·exact⟨x,fun h=>absurd h h0,⟨fun _ h=>absurd h h0,fun _ h=>absurd h h0⟩⟩
   have hok:O.o countB x.client=true→O.o countB x.id=true→(0<k→y.client<x.client)→∀ i,i<k+1→okLast l i:=fun a b c i hi=>by
    rw[O.h] at a b
    by_cases e:i=k
    ·subst e;exact(okLast_iff hx).2 ⟨a,b,hyc.2 c⟩
    ·exact g2 i (by omega)
   have hbad:¬ (O.o countB x.client=true∧O.o countB x.id=true∧(0<k→y.client<x.client))→Q=false:=fun h=>hn (lastsOk_bad hx fun k=>h (by rw[O.h];exact⟨k.1,k.2.1,hyc.1 k.2.2⟩))
   obtain⟨q1,eq1⟩:∃ Q,Q=O.o countB x.client:=⟨_,rfl⟩
   obtain⟨q2,eq2⟩:∃ Q,Q=O.o countB x.id:=⟨_,rfl⟩
   rw[← eq1] at c1 hok hbad
   rw[← eq2] at c2 hok hbad
   clear eq1 eq2 hyc g2 hy hn
   obtain⟨xc,xi,⟨ac,ah,ad,ads,ans,an,at',ak⟩⟩:=x
   obtain⟨yc,yi,⟨bc,bh,bd,bds,bns,bn,bt,bk⟩⟩:=y
   replace hok:q1=true→q2=true→(0<k→yc<xc)→∀ i,i<k+1→okLast l i:=hok
   replace hbad:¬ (q1=true∧q2=true∧(0<k→yc<xc))→Q=false:=hbad
   by_cases h0:0<k
   ·have hyk:=hyk h0
    (repeat' first|(refine Na ?_ fun _ _=>?_;(focus lia);cbv)|(refine Ex.known O (LastR.enc O) rfl hx ?_ ?_;(focus lia);cbv)|(refine Ex.known O (LastR.enc O) rfl hyk ?_ ?_;(focus lia);cbv)|(refine CallThen.bool (C.fn (c1)) (fun _=>?_) (fun _=>?_)<;>cbv)|(refine CallThen.bool (C.fn (c2)) (fun _=>?_) (fun _=>?_)<;>cbv)|(refine Back.up [] [] ?_ ?_ fun _ _=>?_;rotate_left 2;cbv;refine And.intro ?_ ?_)|(refine Nl fun _ _ hq=>?_;(try simp only [lenS] at hq);cbv)|(refine Nm fun _ _=>?_;cbv)|(refine Br.t ?_ ?_;(focus first|assumption|lia);cbv)|(refine Br.f ?_ ?_;(focus first|assumption|lia);cbv)|(refine Br.mk (fun _=>?_) (fun _=>?_)<;>cbv)|(refine Need.mk ?_ ?_;rotate_left;cbv)|(refine R0 ?_;cbv))
    all_goals(repeat' apply And.intro)
    all_goals try first
     | exact True.intro
     | exact WkR.refl _
     | (clear hx hyk hok hbad c1 c2;lia)
    all_goals first
     | (refine hbad fun h=>?_;have h3:=h.2.2 h0;clear hx hyk hok hbad c1 c2;first|lia|(simp_all;done))
     | (refine hok (by assumption) (by assumption) fun _=>?_;clear hx hyk hok hbad c1 c2;lia)
     | trace_state
   ·clear hyk
    (repeat' first|(refine Na ?_ fun _ _=>?_;(focus lia);cbv)|(refine Ex.known O (LastR.enc O) rfl hx ?_ ?_;(focus lia);cbv)|(refine CallThen.bool (C.fn (c1)) (fun _=>?_) (fun _=>?_)<;>cbv)|(refine CallThen.bool (C.fn (c2)) (fun _=>?_) (fun _=>?_)<;>cbv)|(refine Back.up [] [] ?_ ?_ fun _ _=>?_;rotate_left 2;cbv;refine And.intro ?_ ?_)|(refine Nl fun _ _ hq=>?_;(try simp only [lenS] at hq);cbv)|(refine Nm fun _ _=>?_;cbv)|(refine Br.t ?_ ?_;(focus first|assumption|lia);cbv)|(refine Br.f ?_ ?_;(focus first|assumption|lia);cbv)|(refine Br.mk (fun _=>?_) (fun _=>?_)<;>cbv)|(refine Need.mk ?_ ?_;rotate_left;cbv)|(refine R0 ?_;cbv))
    all_goals(repeat' apply And.intro)
    all_goals try first
     | exact True.intro
     | exact WkR.refl _
     | (clear hx hok hbad c1 c2;lia)
    all_goals first
     | exact hok (by assumption) (by assumption) fun h=>absurd h h0
     | (refine hbad fun h=>?_;clear hx hok hbad c1 c2;first|lia|(simp_all;done))
     | (exfalso;clear hx hok hbad c1 c2;lia)
     | trace_state
  ·have hq:=hy (lastsOk_good g3 fun i hi=>g2 i (by omega))
   clear hy hn g2
   (repeat' first|(refine Na ?_ fun _ _=>?_;(focus lia);cbv)|(refine Nl fun _ _ hq=>?_;(try simp only [lenS] at hq);cbv)|(refine Nm fun _ _=>?_;cbv)|(refine Br.t ?_ ?_;(focus first|assumption|lia);cbv)|(refine Br.f ?_ ?_;(focus first|assumption|lia);cbv)|(refine Br.mk (fun _=>?_) (fun _=>?_)<;>cbv)|(refine Need.mk ?_ ?_;rotate_left;cbv)|(refine R0 ?_;cbv))
   all_goals first
    | exact⟨hq,trivial⟩
    | exact⟨hq.symm,trivial⟩
    | (exfalso;lia)
    | trace_state
 ·have hq:Q=false:=hn fun h=>hg ⟨h.1,h.2.1,(lastsOk_iff.1 h.2.2).1⟩
  clear hy hn
  subst hq
  have hg:e1=false∨e2=false∨8<l.length:=by
   cases e1<;>cases e2<;>simp_all
  cases e1<;>cases e2
  all_goals
   refine go (fn:=Proofs.Tryz.f37) (n:=64) (rv:=[ResultVar.tmp 2]) rfl (by decide) rfl (by decide +kernel) rfl rfl (by simp) fun F L C=>?_
   cbv
   (repeat' first|(refine Na ?_ fun _ _=>?_;(focus lia);cbv)|(refine CallThen.mk _ _ (C.fn (k1)) ?_;cbv)|(refine CallThen.mk _ _ (C.fn (k2)) ?_;cbv)|(refine Nl fun _ _ hq=>?_;(try simp only [lenS] at hq);cbv)|(refine Nm fun _ _=>?_;cbv)|(refine Br.t ?_ ?_;(focus first|assumption|lia);cbv)|(refine Br.f ?_ ?_;(focus first|assumption|lia);cbv)|(refine Br.mk (fun _=>?_) (fun _=>?_)<;>cbv)|(refine Need.mk ?_ ?_;rotate_left;cbv)|(refine R0 ?_;cbv))
   all_goals first
    | exact⟨rfl,trivial⟩
    | (exfalso;clear k1 k2;simp at hg;lia)
    | trace_state
theorem dsame1_fn (O:Opq) (x y:LastR) (hx:AnsIn x.answer 9223372036854775807):Fn prog 98 [.agg (x.enc O),.agg (y.enc O)] [] [.bool (O.o sameLast1 x y)] []:=by
  have k1:=sansw_fn O x.answer y.answer hx.doc hx.docs hx.news hx.keys
  obtain⟨c,i,a⟩:=x
  obtain⟨c',i',a'⟩:=y
  have hne:(⟨c,i,a⟩:LastR)≠⟨c',i',a'⟩→O.o sameLast1 ⟨c,i,a⟩ ⟨c',i',a'⟩=false:=fun h=>by simp only [O.h];exact sameLast1_no h
  have heq:(⟨c,i,a⟩:LastR)=⟨c',i',a'⟩→O.o sameLast1 ⟨c,i,a⟩ ⟨c',i',a'⟩=true:=fun h=>by simp only [O.h];exact sameLast1_iff.2 h
  have hsd:O.o sameAns a a'=true ↔ a=a':=by rw[O.h];simp [sameAns]
  simp only [ne_eq,LastR.mk.injEq] at hne heq
  clear hx
  obtain⟨Q,eQ⟩:∃ Q,Q=O.o sameLast1 ⟨c,i,a⟩ ⟨c',i',a'⟩:=⟨_,rfl⟩
  obtain⟨S,eS⟩:∃ Q,Q=O.o sameAns a a':=⟨_,rfl⟩
  rw[← eQ] at hne heq ⊢
  replace k1:Fn prog 68 [.agg (a.enc O),.agg (a'.enc O)] [] [.bool (O.o sameAns a a')] []:=k1
  rw[← eS] at hsd k1
  clear eQ eS
  have hQ:Q=true ↔ c=c'∧i=i'∧S=true:=by
    constructor
    · intro h
      by_cases e:c=c'∧i=i'∧a=a'
      · exact⟨e.1,e.2.1,hsd.2 e.2.2⟩
      · rw[hne e] at h;cases h
    · rintro ⟨e1,e2,e3⟩;exact heq ⟨e1,e2,hsd.1 e3⟩
  clear hne heq hsd
  obtain⟨ac,ah,ad,ads,ans,an,at',ak⟩:=a
  obtain⟨bc,bh,bd,bds,bns,bn,bt,bk⟩:=a'
  cases S
  all_goals
    refine go (fn:=Proofs.Tryz.f98) (n:=22) (rv:=[ResultVar.tmp 4]) rfl (by decide) rfl (by decide +kernel) rfl rfl (by simp) fun F L C=>?_
    cbv
    (repeat' first|(refine Na ?_ fun _ _=>?_;(focus lia);cbv)|(refine CallThen.mk _ _ (C.fn (k1)) ?_;cbv)|(refine Nl fun _ _ hq=>?_;(try simp only [lenS] at hq);cbv)|(refine Nm fun _ _=>?_;cbv)|(refine Br.t ?_ ?_;(focus first|assumption|lia);cbv)|(refine Br.f ?_ ?_;(focus first|assumption|lia);cbv)|(refine Br.mk (fun _=>?_) (fun _=>?_)<;>cbv)|(refine Need.mk ?_ ?_;rotate_left;cbv)|(refine R0 ?_;cbv))
    all_goals
      refine⟨?_,trivial⟩
      clear k1
      first
        | (refine hQ.2 ?_;simp_all;done)
        | (cases hb : Q with
           | false=>rfl
           | true=>exfalso;have:=hQ.1 hb;clear hQ;simp_all;done)
        | trace_state
theorem equalL_fn (O:Opq) (d e:List LastR) (hd:d.length≤9223372036854775807) (hdd:∀ c∈d,AnsIn c.answer 9223372036854775807):Fn prog 97 [.sl false 0 false 10 (O.o (Lasts.enc O) d),.sl false 0 false 10 (O.o (Lasts.enc O) e),.fn 98 [] []] [] [.bool (O.o sameLs d e)] []:=by
 have hlen:(O.o (Lasts.enc O) d).length=d.length:=Lasts.len O d
 have hlen2:(O.o (Lasts.enc O) e).length=e.length:=Lasts.len O e
 obtain⟨N,hN⟩:∃ N:Nat,N=d.length:=⟨_,rfl⟩
 obtain⟨z,hz⟩:∃ z:Nat,z=0:=⟨_,rfl⟩
 refine go (fn:=Proofs.Tryz.f97) (n:=29) (rv:=[ResultVar.tmp 6]) rfl (by decide) rfl (by decide +kernel) rfl rfl (by simp) fun F L C=>?_
 cbv
 (repeat' first|(refine Na ?_ fun _ _=>?_;(focus lia);cbv)|(refine Nl fun _ _ hq=>?_;(try simp only [lenS] at hq);cbv)|(refine Nm fun _ _=>?_;cbv)|(refine Br.t ?_ ?_;(focus first|assumption|lia);cbv)|(refine Br.f ?_ ?_;(focus first|assumption|lia);cbv)|(refine Br.mk (fun _=>?_) (fun _=>?_)<;>cbv)|(refine Need.mk ?_ ?_;rotate_left;cbv)|(refine R0 ?_;cbv))
 all_goals try first
  | (refine⟨?_,trivial⟩;simp only [O.h];exact sameLs_len (by lia))
 refine LoopThen.mk (C.loopAt (ι:=Nat) [(6,9),(17,31)] (fun k=>[(6,.bool false),(17,.int .i64 k)]) (fun _=>[])
  (fun k=>k≤d.length∧∀ (j:Nat),j<k→d[j]?=e[j]?) (fun k=>N-k) (by decide +kernel) (Start.mk z [] [] ⟨by lia,fun j hj=>by omega⟩ (by cbv;(repeat' apply And.intro)<;>first|exact True.intro|exact WkR.refl _|rfl|lia)) ?_)
 intro k g
 cbv
 have g1:k≤d.length:=g.1
 have g2:=g.2
 clear g
 by_cases hk:k<d.length
 ·obtain⟨x,hx⟩:∃ x,d[k]?=some x:=⟨d[k],by simp [hk]⟩
  obtain⟨y,hy⟩:∃ y,e[k]?=some y:=⟨e[k]'(by lia),by simp⟩
  have hxd:=hdd x (List.mem_of_getElem? hx)
  have hne:x≠y→O.o sameLs d e=false:=fun h=>by simp only [O.h];exact sameLs_at (k:=k) (by rw[hx,hy];simpa using h)
  have hst:x=y→∀ (j:Nat),j<k+1→d[j]?=e[j]?:=fun h j hj=>by
   by_cases ej:j=k
   ·subst ej;rw[hx,hy,h]
   ·exact g2 j (by omega)
  have hso:O.o sameLast1 x y=true ↔ x=y:=by rw[O.h];exact sameLast1_iff
  have hcall:=dsame1_fn O x y hxd
  clear g2 hdd
  obtain⟨qq,eqq⟩:∃ q,q=O.o sameLast1 x y:=⟨_,rfl⟩
  rw[← eqq] at hso hcall
  clear eqq
  cases qq
  all_goals
   (repeat' first|(refine Na ?_ fun _ _=>?_;(focus lia);cbv)|(refine Ex.known O (LastR.enc O) rfl hx ?_ ?_;(focus lia);cbv)|(refine Ex.known O (LastR.enc O) rfl hy ?_ ?_;(focus lia);cbv)|(refine CallThen.mk _ _ (C.fn (hcall)) ?_;cbv)|(refine Back.up [] [] ?_ ?_ fun _ _=>?_;rotate_left 2;cbv;refine And.intro ?_ ?_)|(refine Nl fun _ _ hq=>?_;(try simp only [lenS] at hq);cbv)|(refine Nm fun _ _=>?_;cbv)|(refine Br.t ?_ ?_;(focus first|assumption|lia);cbv)|(refine Br.f ?_ ?_;(focus first|assumption|lia);cbv)|(refine Br.mk (fun _=>?_) (fun _=>?_)<;>cbv)|(refine Need.mk ?_ ?_;rotate_left;cbv)|(refine R0 ?_;cbv))
   all_goals(repeat' apply And.intro)
   all_goals try first
    | exact True.intro
    | exact WkR.refl _
    | (clear hx hy hne hst hso;lia)
   all_goals first
    | (refine hne fun h=>?_;have:=hso.2 h;cases this;done)
    | exact hst (hso.1 rfl)
    | trace_state
 ·(repeat' first|(refine Na ?_ fun _ _=>?_;(focus lia);cbv)|(refine Nl fun _ _ hq=>?_;(try simp only [lenS] at hq);cbv)|(refine Nm fun _ _=>?_;cbv)|(refine Br.t ?_ ?_;(focus first|assumption|lia);cbv)|(refine Br.f ?_ ?_;(focus first|assumption|lia);cbv)|(refine Br.mk (fun _=>?_) (fun _=>?_)<;>cbv)|(refine Need.mk ?_ ?_;rotate_left;cbv)|(refine R0 ?_;cbv))
  all_goals(repeat' apply And.intro)
  all_goals try first
   | exact True.intro
   | lia
  all_goals
   simp only [O.h]
   exact sameLs_all (by clear g2;lia) fun j hj=>g2 j (by clear g2;lia)
structure DepSz (d:Depot) (m:Nat):Prop where
 docs:d.docs.length≤m∧∀ n∈d.docs,n.doc.length≤m
 chs:d.feed.changes.length≤m∧∀ c∈d.feed.changes,c.doc.length≤m
 subs:d.feed.subs.length≤m
 last:d.last.length≤m∧∀ x∈d.last,AnsIn x.answer m
def docsA (l:List Ndoc):Answer:=⟨0,false,[],l,[],0,0,[]⟩
theorem sdocs_fn (O:Opq) (a b:List Ndoc) (h:a.length≤9223372036854775807∧∀ c∈a,c.doc.length≤9223372036854775807):Fn prog 68 [.agg [.int .i64 0,.bool false,.nils,.sl false 0 false 2 (O.o (Nms.enc O) a),.nils,.int .i64 0,.int .i64 0,.nils],.agg [.int .i64 0,.bool false,.nils,.sl false 0 false 2 (O.o (Nms.enc O) b),.nils,.int .i64 0,.int .i64 0,.nils]] [] [.bool (O.o sameNs a b)] []:=by
 have k:=sansw_fn O (docsA a) (docsA b) (by simp [docsA]) h (by simp [docsA]) (by simp [docsA])
 have hb:O.o sameAns (docsA a) (docsA b)=O.o sameNs a b:=by
  rw[Bool.eq_iff_iff]
  simp only [O.h,sameAns,sameNs,decide_eq_true_eq]
  simp [docsA]
 rw[hb] at k
 have e2:O.o (Chs.enc O) []=[]:=by rw[O.h];rfl
 have e3:O.o Prs.enc []=[]:=by rw[O.h];rfl
 have e4:O.o Doc.enc []=[]:=by rw[O.h];rfl
 have ed:∀ l,(docsA l).enc O=[.int .i64 0,.bool false,.sl false 0 false 6 [],.sl false 0 false 2 (O.o (Nms.enc O) l),.sl false 0 false 4 [],.int .i64 0,.int .i64 0,.sl false 0 false 2 []]:=fun l=>by
  rw[show(docsA l).enc O=[.int .i64 0,.bool false,.sl false 0 false 6 (O.o Doc.enc []),.sl false 0 false 2 (O.o (Nms.enc O) l),.sl false 0 false 4 (O.o (Chs.enc O) []),.int .i64 0,.int .i64 0,.sl false 0 false 2 (O.o Prs.enc [])] from rfl,e2,e3,e4]
 rw[ed,ed] at k
 have w:∀ l,WkA (.agg [.int .i64 0,.bool false,.sl false 0 false 6 [],.sl false 0 false 2 (O.o (Nms.enc O) l),.sl false 0 false 4 [],.int .i64 0,.int .i64 0,.sl false 0 false 2 []]) (.agg [.int .i64 0,.bool false,.nils,.sl false 0 false 2 (O.o (Nms.enc O) l),.nils,.int .i64 0,.int .i64 0,.nils]):=fun l =>
  .agg' (.cons (.refl _) (.cons (.refl _) (.cons (.wk (.nil _ _)) (.cons (.refl _) (.cons (.wk (.nil _ _)) (.cons (.refl _) (.cons (.refl _) (.cons (.wk (.nil _ _)) .nil))))))))
 exact k.wkA (.cons (w a) (.cons (w b) .nil))
theorem dsame_fn (O:Opq) (a b:Depot) (h:DepSz a 1099511627776):Fn prog 41 [.agg (a.enc O),.agg (b.enc O)] [] [.bool (O.o sameDp a b)] []:=by
 have k1:=fsame_fn O a.feed b.feed h.chs.1 h.subs h.chs.2
 have k2:=sdocs_fn O a.docs b.docs ⟨by have:=h.docs.1;omega,fun c hc=>by have:=h.docs.2 c hc;omega⟩
 have k3:=equalL_fn O a.last b.last (by have:=h.last.1;omega) fun c hc=>(h.last.2 c hc).mono (by decide)
 have hQ:O.o sameDp a b=true ↔ O.o sameF a.feed b.feed=true∧O.o sameNs a.docs b.docs=true∧O.o sameLs a.last b.last=true:=by
  simp only [O.h,sameDp_iff,sameF_iff,sameLs_iff,sameNs,decide_eq_true_eq,Depot.ext']
  exact⟨fun⟨x,y,z⟩=>⟨y,x,z⟩,fun⟨y,x,z⟩=>⟨x,y,z⟩⟩
 obtain⟨s1,e1⟩:∃ s,s=O.o sameF a.feed b.feed:=⟨_,rfl⟩
 obtain⟨s2,e2⟩:∃ s,s=O.o sameNs a.docs b.docs:=⟨_,rfl⟩
 obtain⟨s3,e3⟩:∃ s,s=O.o sameLs a.last b.last:=⟨_,rfl⟩
 obtain⟨Q,eQ⟩:∃ s,s=O.o sameDp a b:=⟨_,rfl⟩
 rw[← e1] at k1 hQ
 rw[← e2] at k2 hQ
 rw[← e3] at k3 hQ
 rw[← eQ] at hQ ⊢
 clear e1 e2 e3 eQ h
 obtain⟨docs,⟨base,total,chs,subs⟩,l⟩:=a
 obtain⟨docs',⟨base',total',chs',subs'⟩,l'⟩:=b
 have hQ':Q=(s1 && s2 && s3):=by cases Q<;>cases s1<;>cases s2<;>cases s3<;>simp_all
 clear hQ
 subst hQ'
 cases s1<;>cases s2<;>cases s3
 all_goals
  refine go (fn:=Proofs.Tryz.f41) (n:=24) (rv:=[ResultVar.tmp 4]) rfl (by decide) rfl (by decide +kernel) rfl rfl (by simp) fun F L C=>?_
  cbv
  (repeat' first|(refine Na ?_ fun _ _=>?_;(focus lia);cbv)|(refine CallThen.mk _ _ (C.fn (k1)) ?_;cbv)|(refine CallThen.mk _ _ (C.fn (k2)) ?_;cbv)|(refine CallThen.mk _ _ (C.fn (k3)) ?_;cbv)|(refine Nl fun _ _ hq=>?_;(try simp only [lenS] at hq);cbv)|(refine Nm fun _ _=>?_;cbv)|(refine Br.t ?_ ?_;(focus first|assumption|lia);cbv)|(refine Br.f ?_ ?_;(focus first|assumption|lia);cbv)|(refine Br.mk (fun _=>?_) (fun _=>?_)<;>cbv)|(refine Need.mk ?_ ?_;rotate_left;cbv)|(refine R0 ?_;cbv))
  all_goals first
   | exact⟨rfl,trivial⟩
   | trace_state
set_option maxHeartbeats 4000000 in
theorem rsame14_fn (O:Opq) (a b:Depot) (h:DepSz a 1099511627776):Fn prog 31 [.agg (a.enc O),.agg (b.enc O)] [] [.bool (O.o sameDp a b)] []:=by
 have k1:=rsameF_fn O a.feed b.feed h.chs.1 h.subs h.chs.2
 have k2:=r12docs_fn O a.docs b.docs (by have:=h.docs.1;omega) (fun c hc=>by have:=h.docs.2 c hc;omega)
 have hla:=h.last
 have hlen:=Lasts.len O a.last
 have hlen2:=Lasts.len O b.last
 have hQ:O.o sameDp a b=true ↔ O.o sameF a.feed b.feed=true∧O.o sameNs a.docs b.docs=true∧a.last=b.last:=by
  simp only [O.h,sameDp_iff,sameF_iff,sameNs,decide_eq_true_eq,Depot.ext']
  exact⟨fun⟨x,y,z⟩=>⟨y,x,z⟩,fun⟨y,x,z⟩=>⟨x,y,z⟩⟩
 obtain⟨s1,e1⟩:∃ s,s=O.o sameF a.feed b.feed:=⟨_,rfl⟩
 obtain⟨s2,e2⟩:∃ s,s=O.o sameNs a.docs b.docs:=⟨_,rfl⟩
 obtain⟨Q,eQ⟩:∃ s,s=O.o sameDp a b:=⟨_,rfl⟩
 rw[← e1] at k1 hQ
 rw[← e2] at k2 hQ
 rw[← eQ] at hQ ⊢
 clear e1 e2 eQ h
 obtain⟨docs,⟨base,total,chs,subs⟩,l⟩:=a
 obtain⟨docs',⟨base',total',chs',subs'⟩,l'⟩:=b
 replace hla:l.length≤1099511627776∧∀ x∈l,AnsIn x.answer 1099511627776:=hla
 replace hlen:(O.o (Lasts.enc O) l).length=l.length:=hlen
 replace hlen2:(O.o (Lasts.enc O) l').length=l'.length:=hlen2
 replace hQ:Q=true ↔ s1=true∧s2=true∧l=l':=hQ
 by_cases hg:s1=true∧s2=true∧l.length=l'.length
 ·obtain⟨g1,g2,g3⟩:=hg
  subst g1;subst g2
  have hyes:l=l'→Q=true:=fun h=>hQ.2 ⟨rfl,rfl,h⟩
  have hno:l≠l'→Q=false:=fun h=>by
   cases hb:Q with
   | false=>rfl
   | true=>exact absurd (hQ.1 hb).2.2 h
  clear hQ
  obtain⟨hl1,hl2⟩:=hla
  obtain⟨N,hN⟩:∃ N:Nat,N=l.length:=⟨_,rfl⟩
  obtain⟨z,hz⟩:∃ z:Nat,z=0:=⟨_,rfl⟩
  refine go (fn:=Proofs.Tryz.f31) (n:=78) (rv:=[ResultVar.tmp 4]) rfl (by decide) rfl (by decide +kernel) rfl rfl (by simp) fun F L C=>?_
  cbv
  (repeat' first|(refine Na ?_ fun _ _=>?_;(focus lia);cbv)|(refine CallThen.mk _ _ (C.fn (k1)) ?_;cbv)|(refine CallThen.mk _ _ (C.fn (k2)) ?_;cbv)|(refine Nl fun _ _ hq=>?_;(try simp only [lenS] at hq);cbv)|(refine Nm fun _ _=>?_;cbv)|(refine Br.t ?_ ?_;(focus first|assumption|lia);cbv)|(refine Br.f ?_ ?_;(focus first|assumption|lia);cbv)|(refine Br.mk (fun _=>?_) (fun _=>?_)<;>cbv)|(refine Need.mk ?_ ?_;rotate_left;cbv)|(refine R0 ?_;cbv))
  all_goals try(exfalso;clear k1 k2;lia)
  clear k1 k2
  refine LoopThen.mk (C.loopAt (ι:=Nat) [(4,5),(29,79)] (fun k=>[(4,.bool false),(5,.int .i64 k)]) (fun _=>[(256,.box [.sl false 0 false 2 (O.o (Nms.enc O) docs),.int .i64 base,.int .i64 total,.sl false 0 false 4 (O.o (Chs.enc O) chs),.sl false 0 false 2 (O.o Subs.enc subs),.sl false 0 false 10 (O.o (Lasts.enc O) l)]),(320,.box [.sl false 0 false 2 (O.o (Nms.enc O) docs'),.int .i64 base',.int .i64 total',.sl false 0 false 4 (O.o (Chs.enc O) chs'),.sl false 0 false 2 (O.o Subs.enc subs'),.sl false 0 false 10 (O.o (Lasts.enc O) l')])])
   (fun k=>k≤N∧∀ (j:Nat),j<k→l[j]?=l'[j]?) (fun k=>N-k) (by decide +kernel) (Start.mk z [] [] ⟨by omega,fun j hj=>by omega⟩ ?_) ?_)
  ·cbv
   (repeat' apply And.intro)<;>first|exact True.intro|exact WkR.refl _|rfl|lia|trace_state
  intro k g
  cbv
  have g1:k≤N:=g.1
  have g2:=g.2
  clear g
  by_cases hk:k<l.length
  ·obtain⟨x,hx⟩:∃ x,l[k]?=some x:=⟨l[k],by simp [hk]⟩
   obtain⟨y,hy⟩:∃ y,l'[k]?=some y:=⟨l'[k]'(by omega),by simp⟩
   have hx2:=hl2 x (List.mem_of_getElem? hx)
   have k5:=ransw_fn O x.answer y.answer (by have:=hx2.doc;omega) ⟨by have:=hx2.docs.1;omega,fun c hc=>by have:=hx2.docs.2 c hc;omega⟩ ⟨by have:=hx2.news.1;omega,fun c hc=>by have:=hx2.news.2 c hc;omega⟩ (by have:=hx2.keys;omega)
   have hno:¬ (x.client=y.client∧x.id=y.id∧O.o sameAns x.answer y.answer=true)→Q=false:=fun h=>hno fun e=>h (by
    rw[e,hy] at hx
    have:=Option.some.inj hx
    subst this
    exact⟨rfl,rfl,by rw[O.h,sameAns];simp⟩)
   have hst:x.client=y.client→x.id=y.id→O.o sameAns x.answer y.answer=true→∀ (j:Nat),j<k+1→l[j]?=l'[j]?:=fun e1 e2 e3 j hj=>by
    by_cases ej:j=k
    ·subst ej
     rw[hx,hy]
     rw[O.h,sameAns] at e3
     simp only [decide_eq_true_eq] at e3
     obtain⟨a,b,c⟩:=x
     obtain⟨a',b',c'⟩:=y
     simp only at e1 e2 e3
     rw[e1,e2,e3]
    ·exact g2 j (by omega)
   obtain⟨S,eS⟩:∃ s,s=O.o sameAns x.answer y.answer:=⟨_,rfl⟩
   rw[← eS] at k5 hno hst
   clear eS g2 hyes hl2 hx2
   obtain⟨xc,xi,⟨ac,ah,ad,ads,ans,an,at',ak⟩⟩:=x
   obtain⟨yc,yi,⟨bc,bh,bd,bds,bns,bn,bt,bk⟩⟩:=y
   replace hno:¬ (xc=yc∧xi=yi∧S=true)→Q=false:=hno
   replace hst:xc=yc→xi=yi→S=true→∀ (j:Nat),j<k+1→l[j]?=l'[j]?:=hst
   cases S
   all_goals
    (repeat' first|(refine Na ?_ fun _ _=>?_;(focus lia);cbv)|(refine Ex.known O (LastR.enc O) rfl hx ?_ ?_;(focus lia);cbv)|(refine Ex.known O (LastR.enc O) rfl hy ?_ ?_;(focus lia);cbv)|(refine CallThen.mk _ _ (C.fn (k5)) ?_;cbv)|(refine Back.up [] [] ?_ ?_ fun _ _=>?_;rotate_left 2;cbv;refine And.intro ?_ ?_)|(refine Nl fun _ _ hq=>?_;(try simp only [lenS] at hq);cbv)|(refine Nm fun _ _=>?_;cbv)|(refine Br.t ?_ ?_;(focus first|assumption|lia);cbv)|(refine Br.f ?_ ?_;(focus first|assumption|lia);cbv)|(refine Br.mk (fun _=>?_) (fun _=>?_)<;>cbv)|(refine Need.mk ?_ ?_;rotate_left;cbv)|(refine R0 ?_;cbv))
    all_goals(repeat' apply And.intro)
    all_goals try first
     | exact True.intro
     | exact WkR.refl _
     | (clear hx hy hno hst k5;lia)
    all_goals first
     | (refine hst ?_ ?_ rfl<;>(clear hx hy hno hst k5;lia))
     | (refine hno fun h=>?_;clear hx hy hno hst k5;first|lia|(simp_all;done))
     | trace_state
  ·have hq:=hyes (List.ext_getElem? fun j=>by
    by_cases hj:j<l.length
    ·exact g2 j (by omega)
    ·rw[List.getElem?_eq_none (by omega),List.getElem?_eq_none (by omega)])
   clear hyes hno g2 hl2
   (repeat' first|(refine Na ?_ fun _ _=>?_;(focus lia);cbv)|(refine Nl fun _ _ hq=>?_;(try simp only [lenS] at hq);cbv)|(refine Nm fun _ _=>?_;cbv)|(refine Br.t ?_ ?_;(focus first|assumption|lia);cbv)|(refine Br.f ?_ ?_;(focus first|assumption|lia);cbv)|(refine Br.mk (fun _=>?_) (fun _=>?_)<;>cbv)|(refine Need.mk ?_ ?_;rotate_left;cbv)|(refine R0 ?_;cbv))
   all_goals first
    | exact⟨hq,trivial⟩
    | exact⟨hq.symm,trivial⟩
    | (exfalso;lia)
    | trace_state
 ·have hq:Q=false:=by
   cases hb:Q with
   | false=>rfl
   | true =>
    obtain⟨a,b,c⟩:=hQ.1 hb
    exact absurd ⟨a,b,by rw[c]⟩ hg
  clear hQ
  subst hq
  cases s1<;>cases s2
  all_goals
   refine go (fn:=Proofs.Tryz.f31) (n:=78) (rv:=[ResultVar.tmp 4]) rfl (by decide) rfl (by decide +kernel) rfl rfl (by simp) fun F L C=>?_
   cbv
   (repeat' first|(refine Na ?_ fun _ _=>?_;(focus lia);cbv)|(refine CallThen.mk _ _ (C.fn (k1)) ?_;cbv)|(refine CallThen.mk _ _ (C.fn (k2)) ?_;cbv)|(refine Nl fun _ _ hq=>?_;(try simp only [lenS] at hq);cbv)|(refine Nm fun _ _=>?_;cbv)|(refine Br.t ?_ ?_;(focus first|assumption|lia);cbv)|(refine Br.f ?_ ?_;(focus first|assumption|lia);cbv)|(refine Br.mk (fun _=>?_) (fun _=>?_)<;>cbv)|(refine Need.mk ?_ ?_;rotate_left;cbv)|(refine R0 ?_;cbv))
   all_goals first
    | exact⟨rfl,trivial⟩
    | (exfalso;clear k1 k2;refine hg ⟨rfl,rfl,?_⟩;lia)
    | trace_state
def lightA1 (a:Answer):Prop:=smallD a.docs=true∧lightC a.news=true∧a.doc.length≤20∧a.keys.length≤40
def lightDpP (d:Depot):Prop:=(∀ (j:Nat) (x:LastR),d.last[j]?=some x→lightA1 x.answer)∧smallD d.docs=true∧lightF d.feed=true∧d.last.length≤20
open Classical in
noncomputable def lightDp (d:Depot):Bool:=decide (lightDpP d)
theorem lightDp_iff {d:Depot}:lightDp d=true ↔ lightDpP d:=by simp [lightDp]
set_option maxHeartbeats 2000000 in
theorem llight14_fn (O:Opq) (d:Depot) (h1:d.docs.length≤9223372036854775807) (h2:d.feed.changes.length≤9223372036854775807) (h3:∀ x∈d.last,x.answer.docs.length≤9223372036854775807∧x.answer.news.length≤9223372036854775807) :
  Fn prog 36 [.agg (d.enc O)] [] [.bool (O.o lightDp d)] []:=by
 have k1:=ldocs_fn O d.docs h1
 have k2:=lightF_fn O d.feed h2
 have hlen:=Lasts.len O d.last
 have hno:¬ lightDpP d→O.o lightDp d=false:=fun h=>by
  rw[O.h]
  cases hb:lightDp d with
  | false=>rfl
  | true=>exact absurd (lightDp_iff.1 hb) h
 have hyes:(∀ (j:Nat) (x:LastR),d.last[j]?=some x→lightA1 x.answer)→O.o smallD d.docs=true→O.o lightF d.feed=true→d.last.length≤20→O.o lightDp d=true:=fun a b c e=>by
  rw[O.h] at b c ⊢;exact lightDp_iff.2 ⟨a,b,c,e⟩
 have hno2:¬ (O.o smallD d.docs=true∧O.o lightF d.feed=true∧d.last.length≤20)→O.o lightDp d=false:=fun h=>hno fun k=>h (by rw[O.h,O.h];exact k.2)
 obtain⟨Q,eQ⟩:∃ Q,Q=O.o lightDp d:=⟨_,rfl⟩
 obtain⟨s1,e1⟩:∃ Q,Q=O.o smallD d.docs:=⟨_,rfl⟩
 obtain⟨s2,e2⟩:∃ Q,Q=O.o lightF d.feed:=⟨_,rfl⟩
 have hno3:∀ (j:Nat) (x:LastR),d.last[j]?=some x→¬ lightA1 x.answer→Q=false:=fun j x hx h=>by rw[eQ];exact hno fun k=>h (k.1 j x hx)
 rw[← eQ] at hyes hno2 ⊢
 rw[← e1] at k1 hyes hno2
 rw[← e2] at k2 hyes hno2
 clear hno eQ e1 e2 h1 h2
 obtain⟨docs,⟨base,total,chs,subs⟩,l⟩:=d
 replace hlen:(O.o (Lasts.enc O) l).length=l.length:=hlen
 replace hyes:(∀ (j:Nat) (x:LastR),l[j]?=some x→lightA1 x.answer)→s1=true→s2=true→l.length≤20→Q=true:=hyes
 replace hno2:¬ (s1=true∧s2=true∧l.length≤20)→Q=false:=hno2
 replace hno3:∀ (j:Nat) (x:LastR),l[j]?=some x→¬ lightA1 x.answer→Q=false:=hno3
 replace h3:∀ x∈l,x.answer.docs.length≤9223372036854775807∧x.answer.news.length≤9223372036854775807:=h3
 obtain⟨N,hN⟩:∃ N:Nat,N=l.length:=⟨_,rfl⟩
 obtain⟨z,hz⟩:∃ z:Nat,z=0:=⟨_,rfl⟩
 refine go (fn:=Proofs.Tryz.f36) (n:=57) (rv:=[ResultVar.tmp 2]) rfl (by decide) rfl (by decide +kernel) rfl rfl (by simp) fun F L C=>?_
 cbv
 (repeat' first|(refine Na ?_ fun _ _=>?_;(focus lia);cbv)|(refine Nl fun _ _ hq=>?_;(try simp only [lenS] at hq);cbv)|(refine Nm fun _ _=>?_;cbv)|(refine Br.t ?_ ?_;(focus first|assumption|lia);cbv)|(refine Br.f ?_ ?_;(focus first|assumption|lia);cbv)|(refine Br.mk (fun _=>?_) (fun _=>?_)<;>cbv)|(refine Need.mk ?_ ?_;rotate_left;cbv)|(refine R0 ?_;cbv))
 refine LoopThen.mk (C.loopAt (ι:=Nat) [(2,43)] (fun i=>[(2,.bool false),(3,.int .i64 i)]) (fun _=>[(192,.box [.sl false 0 false 2 (O.o (Nms.enc O) docs),.int .i64 base,.int .i64 total,.sl false 0 false 4 (O.o (Chs.enc O) chs),.sl false 0 false 2 (O.o Subs.enc subs),.sl false 0 false 10 (O.o (Lasts.enc O) l)])])
  (fun i=>(i≤N∧i≤20)∧∀ (j:Nat) (x:LastR),j<i→l[j]?=some x→lightA1 x.answer) (fun i=>N-i) (by decide +kernel) (Start.mk z [] [] ⟨by omega,fun j n hj=>by omega⟩ ?_) ?_)
 ·cbv
  (repeat' apply And.intro)<;>first|exact True.intro|exact WkR.refl _|rfl|lia|trace_state
 intro i g
 cbv
 have g1:i≤N∧i≤20:=g.1
 have g2:=g.2
 clear g
 by_cases hii:i<l.length∧i<20
 ·obtain⟨hi,hi20⟩:=hii
  obtain⟨x,hx⟩:∃ x,l[i]?=some x:=⟨l[i],by simp [hi]⟩
  have hx3:=h3 x (List.mem_of_getElem? hx)
  have c1:=ldocs_fn O x.answer.docs hx3.1
  have c2:=lightC_fn O x.answer.news hx3.2
  have hbad:¬ (O.o smallD x.answer.docs=true∧O.o lightC x.answer.news=true∧x.answer.doc.length≤20∧x.answer.keys.length≤40)→Q=false:=fun h=>hno3 i x hx fun k=>h (by rw[O.h,O.h];exact k)
  have hst:O.o smallD x.answer.docs=true→O.o lightC x.answer.news=true→x.answer.doc.length≤20→x.answer.keys.length≤40→∀ (j:Nat) (y:LastR),j<i+1→l[j]?=some y→lightA1 y.answer:=fun a b c e j y hj hy=>by
   rw[O.h] at a b
   by_cases ej:j=i
   ·subst ej;rw[hx] at hy;cases hy;exact⟨a,b,c,e⟩
   ·exact g2 j y (by omega) hy
  have hx1:(O.o Doc.enc x.answer.doc).length=x.answer.doc.length:=by rw[O.h,Doc.enc_len]
  have hx2:=Prs.len O x.answer.keys
  obtain⟨q1,f1⟩:∃ Q,Q=O.o smallD x.answer.docs:=⟨_,rfl⟩
  obtain⟨q2,f2⟩:∃ Q,Q=O.o lightC x.answer.news:=⟨_,rfl⟩
  rw[← f1] at c1 hbad hst
  rw[← f2] at c2 hbad hst
  have hno4:20<l.length→Q=false:=fun h=>hno2 fun k=>by omega
  clear hyes hno2 hno3 g2 h3 f1 f2 k1 k2
  obtain⟨xc,xi,⟨ac,ah,ad,ads,ans,an,at',ak⟩⟩:=x
  replace hbad:¬ (q1=true∧q2=true∧ad.length≤20∧ak.length≤40)→Q=false:=hbad
  replace hst:q1=true→q2=true→ad.length≤20→ak.length≤40→∀ (j:Nat) (y:LastR),j<i+1→l[j]?=some y→lightA1 y.answer:=hst
  replace hx1:(O.o Doc.enc ad).length=ad.length:=hx1
  replace hx2:(O.o Prs.enc ak).length=ak.length:=hx2
  clear hno4
  cases q1<;>cases q2
  all_goals
   (repeat' first|(refine Na ?_ fun _ _=>?_;(focus lia);cbv)|(refine Ex.known O (LastR.enc O) rfl hx ?_ ?_;(focus lia);cbv)|(refine CallThen.mk _ _ (C.fn (c1)) ?_;cbv)|(refine CallThen.mk _ _ (C.fn (c2)) ?_;cbv)|(refine Back.up [] [] ?_ ?_ fun _ _=>?_;rotate_left 2;cbv;refine And.intro ?_ ?_)|(refine Nl fun _ _ hq=>?_;(try simp only [lenS] at hq);cbv)|(refine Nm fun _ _=>?_;cbv)|(refine Br.t ?_ ?_;(focus first|assumption|lia);cbv)|(refine Br.f ?_ ?_;(focus first|assumption|lia);cbv)|(refine Br.mk (fun _=>?_) (fun _=>?_)<;>cbv)|(refine Need.mk ?_ ?_;rotate_left;cbv)|(refine R0 ?_;cbv))
   all_goals(repeat' apply And.intro)
   all_goals try first
    | exact True.intro
    | exact WkR.refl _
    | (clear hx hbad hst c1 c2;lia)
   all_goals first
    | (refine hst rfl rfl ?_ ?_<;>(clear hx hbad hst c1 c2;lia))
    | (refine hbad fun h=>?_;clear hx hbad hst c1 c2;first|lia|(simp_all;done))
    | trace_state
 ·have hy:=fun a b (c:l.length≤20)=>hyes (fun j x hx=>g2 j x (by have:=(List.getElem?_eq_some_iff.1 hx).1;omega) hx) a b c
  clear hyes hno3 g2 h3
  cases s1<;>cases s2
  all_goals
   (repeat' first|(refine Na ?_ fun _ _=>?_;(focus lia);cbv)|(refine CallThen.mk _ _ (C.fn (k1)) ?_;cbv)|(refine CallThen.mk _ _ (C.fn (k2)) ?_;cbv)|(refine Nl fun _ _ hq=>?_;(try simp only [lenS] at hq);cbv)|(refine Nm fun _ _=>?_;cbv)|(refine Br.t ?_ ?_;(focus first|assumption|lia);cbv)|(refine Br.f ?_ ?_;(focus first|assumption|lia);cbv)|(refine Br.mk (fun _=>?_) (fun _=>?_)<;>cbv)|(refine Need.mk ?_ ?_;rotate_left;cbv)|(refine R0 ?_;cbv))
   all_goals first
    | (exfalso;clear k1 k2 hy hno2;lia)
    | (refine⟨?_,trivial⟩;first|exact hy rfl rfl (by clear k1 k2 hy hno2;lia)|(refine hno2 fun h=>?_;clear k1 k2 hy hno2;first|lia|(simp_all;done))|(refine(hno2 fun h=>?_).symm;clear k1 k2 hy hno2;first|lia|(simp_all;done)))
    | trace_state
end Go.Sym
