/- Which depots may be; counts, what turns; who asked last, sought. -/
import Derived.Test.YthaaoongjcmleaaGreatDoorK17
set_option linter.all false
set_option linter.unusedVariables false
set_option linter.unusedSimpArgs false
namespace Go.Sym
open Go Go.Proofs.Tryz
set_option maxRecDepth 100000
theorem dcount_fn (O:Opq) (n:Int):Fn prog 53 [.int .i64 n] [] [.bool (O.o countB n)] []:=by
 have h1:1≤n∧n≤2147483647→O.o countB n=true:=fun h=>by rw[O.h,countB];simpa using h
 have h2:¬ (1≤n∧n≤2147483647)→O.o countB n=false:=fun h=>by rw[O.h,countB];simpa using h
 obtain⟨Q,eQ⟩:∃ Q,Q=O.o countB n:=⟨_,rfl⟩
 rw[← eQ] at h1 h2 ⊢
 clear eQ
 refine go (fn:=Proofs.Tryz.f53) (n:=8) (rv:=[ResultVar.tmp 2]) rfl (by decide) rfl (by decide +kernel) rfl rfl (by simp) fun F L C=>?_
 cbv
 (repeat' first|(refine Na ?_ fun _ _=>?_;(focus lia);cbv)|(refine Nl fun _ _ hq=>?_;(try simp only [lenS] at hq);cbv)|(refine Nm fun _ _=>?_;cbv)|(refine Br.t ?_ ?_;(focus first|assumption|lia);cbv)|(refine Br.f ?_ ?_;(focus first|assumption|lia);cbv)|(refine Br.mk (fun _=>?_) (fun _=>?_)<;>cbv)|(refine Need.mk ?_ ?_;rotate_left;cbv)|(refine R0 ?_;cbv))
 all_goals first
  | exact⟨h1 (by clear h1 h2;lia),trivial⟩
  | exact⟨h2 (by clear h1 h2;lia),trivial⟩
  | (exfalso;clear h1 h2;lia)
  | trace_state
theorem dturns_fn (O:Opq) (o:Opn):Fn prog 48 [.agg (o.en O)] [] [.bool (O.o turnsB o.kind)] []:=by
 obtain⟨kind,key,to,doc,want,has,n,most,ops,ods,ons⟩:=o
 have h1:1≤kind∧kind≤3∨6≤kind∧kind≤10→O.o turnsB kind=true:=fun h=>by rw[O.h,turnsB];simpa using h
 have h2:¬ (1≤kind∧kind≤3∨6≤kind∧kind≤10)→O.o turnsB kind=false:=fun h=>by rw[O.h,turnsB,decide_eq_false_iff_not];exact h
 show Fn prog _ _ _ [.bool (O.o turnsB kind)] _
 obtain⟨Q,eQ⟩:∃ Q,Q=O.o turnsB kind:=⟨_,rfl⟩
 rw[← eQ] at h1 h2 ⊢
 clear eQ
 refine go (fn:=Proofs.Tryz.f48) (n:=13) (rv:=[ResultVar.tmp 2]) rfl (by decide) rfl (by decide +kernel) rfl rfl (by simp) fun F L C=>?_
 cbv
 (repeat' first|(refine Na ?_ fun _ _=>?_;(focus lia);cbv)|(refine Nl fun _ _ hq=>?_;(try simp only [lenS] at hq);cbv)|(refine Nm fun _ _=>?_;cbv)|(refine Br.t ?_ ?_;(focus first|assumption|lia);cbv)|(refine Br.f ?_ ?_;(focus first|assumption|lia);cbv)|(refine Br.mk (fun _=>?_) (fun _=>?_)<;>cbv)|(refine Need.mk ?_ ?_;rotate_left;cbv)|(refine R0 ?_;cbv))
 all_goals first
  | exact⟨h1 (by clear h1 h2;lia),trivial⟩
  | exact⟨h2 (by clear h1 h2;lia),trivial⟩
  | (exfalso;clear h1 h2;lia)
  | trace_state
theorem rturns_fn (O:Opq) (kind:Int):Fn prog 19 [.int .i64 kind] [] [.bool (O.o turnsB kind)] []:=by
 have h1:1≤kind∧kind≤3∨6≤kind∧kind≤10→O.o turnsB kind=true:=fun h=>by rw[O.h,turnsB];simpa using h
 have h2:¬ (1≤kind∧kind≤3∨6≤kind∧kind≤10)→O.o turnsB kind=false:=fun h=>by rw[O.h,turnsB,decide_eq_false_iff_not];exact h
 obtain⟨Q,eQ⟩:∃ Q,Q=O.o turnsB kind:=⟨_,rfl⟩
 rw[← eQ] at h1 h2 ⊢
 clear eQ
 refine go (fn:=Proofs.Tryz.f19) (n:=20) (rv:=[ResultVar.tmp 2]) rfl (by decide) rfl (by decide +kernel) rfl rfl (by simp) fun F L C=>?_
 cbv
 (repeat' first|(refine Na ?_ fun _ _=>?_;(focus lia);cbv)|(refine Nl fun _ _ hq=>?_;(try simp only [lenS] at hq);cbv)|(refine Nm fun _ _=>?_;cbv)|(refine Br.t ?_ ?_;(focus first|assumption|lia);cbv)|(refine Br.f ?_ ?_;(focus first|assumption|lia);cbv)|(refine Br.mk (fun _=>?_) (fun _=>?_)<;>cbv)|(refine Need.mk ?_ ?_;rotate_left;cbv)|(refine R0 ?_;cbv))
 all_goals first
  | exact⟨h1 (by clear h1 h2;lia),trivial⟩
  | exact⟨h2 (by clear h1 h2;lia),trivial⟩
  | (exfalso;clear h1 h2;lia)
  | trace_state
set_option maxHeartbeats 4000000 in
theorem dcheck_fn (O:Opq) (d:Depot) (h1:d.docs.length≤1099511627∧∀ n∈d.docs,n.doc.length≤1099511627) (h2:d.feed.changes.length≤1099511627∧d.feed.subs.length≤1099511627∧∀ c∈d.feed.changes,inC c∧c.doc.length≤1099511627776) (h3:d.last.length≤9223372036854775807) :
  Fn prog 46 [.agg (d.enc O)] [] [.int .i64 (O.o depotErr d)] []:=by
 have k1:=scheck_fn O d.docs (by omega) (fun n hn=>by have:=h1.2 n hn;omega)
 have k2:=fcheck_fn O d.feed (by omega) (by omega) h2.2.2
 have hlen:=Lasts.len O d.last
 have hy:O.o mayDE d.docs=0→O.o feedErr d.feed=0→lastsOk d.last=true→O.o depotErr d=0:=fun a b c=>by
  rw[O.h] at a b ⊢
  exact depotErr_zero.2 (mayDp_iff.2 ⟨mayDE_zero.1 a,feedErr_zero.1 b,c⟩)
 have hn:¬ (O.o mayDE d.docs=0∧O.o feedErr d.feed=0∧lastsOk d.last=true)→O.o depotErr d=1:=fun h=>by
  simp only [O.h] at h ⊢
  rw[depotErr,if_neg]
  intro k
  obtain⟨a,b,c⟩:=mayDp_iff.1 k
  exact h ⟨mayDE_zero.2 a,feedErr_zero.2 b,c⟩
 obtain⟨Q,eQ⟩:∃ Q,Q=O.o depotErr d:=⟨_,rfl⟩
 obtain⟨e1,ee1⟩:∃ Q,Q=O.o mayDE d.docs:=⟨_,rfl⟩
 obtain⟨e2,ee2⟩:∃ Q,Q=O.o feedErr d.feed:=⟨_,rfl⟩
 rw[← ee1] at k1 hy hn
 rw[← ee2] at k2 hy hn
 rw[← eQ] at hy hn ⊢
 clear eQ ee1 ee2 h1 h2
 obtain⟨docs,⟨base,total,chs,subs⟩,l⟩:=d
 replace hlen:(O.o (Lasts.enc O) l).length=l.length:=hlen
 replace h3:l.length≤9223372036854775807:=h3
 replace hy:e1=0→e2=0→lastsOk l=true→Q=0:=hy
 replace hn:¬ (e1=0∧e2=0∧lastsOk l=true)→Q=1:=hn
 by_cases hg:e1=0∧e2=0∧l.length≤8
 ·obtain⟨g1,g2,g3⟩:=hg
  subst g1;subst g2
  have hy:=fun h=>hy rfl rfl h
  have hn:lastsOk l=false→Q=1:=fun h=>hn fun k=>by rw[h] at k;cases k.2.2
  obtain⟨N,hN⟩:∃ N:Nat,N=l.length:=⟨_,rfl⟩
  obtain⟨z,hz⟩:∃ z:Nat,z=0:=⟨_,rfl⟩
  refine go (fn:=Proofs.Tryz.f46) (n:=55) (rv:=[ResultVar.tmp 2]) rfl (by decide) rfl (by decide +kernel) rfl rfl (by simp) fun F L C=>?_
  cbv
  (repeat' first|(refine Na ?_ fun _ _=>?_;(focus lia);cbv)|(refine CallThen.mk _ _ (C.fn (k1)) ?_;cbv)|(refine CallThen.mk _ _ (C.fn (k2)) ?_;cbv)|(refine Nl fun _ _ hq=>?_;(try simp only [lenS] at hq);cbv)|(refine Nm fun _ _=>?_;cbv)|(refine Br.t ?_ ?_;(focus first|assumption|lia);cbv)|(refine Br.f ?_ ?_;(focus first|assumption|lia);cbv)|(refine Br.mk (fun _=>?_) (fun _=>?_)<;>cbv)|(refine Need.mk ?_ ?_;rotate_left;cbv)|(refine R0 ?_;cbv))
  all_goals try(exfalso;clear k1 k2 hy hn;lia)
  clear k1 k2
  refine LoopThen.mk (C.loopAt (ι:=Nat) [(2,4),(24,55)] (fun k=>[(2,.int .i64 0),(24,.int .i64 k)]) (fun _=>[(192,.box [.sl false 0 false 2 (O.o (Nms.enc O) docs),.int .i64 base,.int .i64 total,.sl false 0 false 4 (O.o (Chs.enc O) chs),.sl false 0 false 2 (O.o Subs.enc subs),.sl false 0 false 10 (O.o (Lasts.enc O) l)])])
   (fun k=>k≤N∧∀ i,i<k→okLast l i) (fun k=>N-k) (by decide +kernel) (Start.mk z [] [] ⟨by omega,fun i hi=>by omega⟩ ?_) ?_)
  ·cbv
   (repeat' apply And.intro)<;>first|exact True.intro|exact WkR.refl _|rfl|lia|trace_state
  intro k g
  cbv
  have g1:k≤N:=g.1
  have g2:=g.2
  clear g
  by_cases hk:k<l.length
  ·obtain⟨x,hx⟩:∃ x,l[k]?=some x:=⟨l[k],by simp [hk]⟩
   have c1:=dcount_fn O x.client
   have c2:=dcount_fn O x.id
   obtain⟨y,hyk,hyc⟩:∃ y:LastR,(0<k→l[k-1]?=some y)∧((0<k→∃ g,l[k-1]?=some g∧g.client<x.client) ↔ (0<k→y.client<x.client)):=by
    by_cases h0:0<k
    ·refine⟨l[k-1],fun _=>by simp,?_⟩
     rw[List.getElem?_eq_getElem (by omega)]
     exact⟨fun h _=>by obtain⟨g,e,h⟩:=h h0;cases e;exact h,fun h _=>⟨_,rfl,h h0⟩⟩
    ·exact⟨x,fun h=>absurd h h0,⟨fun _ h=>absurd h h0,fun _ h=>absurd h h0⟩⟩
   have hok:O.o countB x.client=true→O.o countB x.id=true→(0<k→y.client<x.client)→∀ i,i<k+1→okLast l i:=fun a b c i hi=>by
    rw[O.h] at a b
    by_cases e:i=k
    ·subst e;exact(okLast_iff hx).2 ⟨a,b,hyc.2 c⟩
    ·exact g2 i (by omega)
   have hbad:¬ (O.o countB x.client=true∧O.o countB x.id=true∧(0<k→y.client<x.client))→Q=1:=fun h=>hn (lastsOk_bad hx fun k=>h (by rw[O.h];exact⟨k.1,k.2.1,hyc.1 k.2.2⟩))
   obtain⟨q1,eq1⟩:∃ Q,Q=O.o countB x.client:=⟨_,rfl⟩
   obtain⟨q2,eq2⟩:∃ Q,Q=O.o countB x.id:=⟨_,rfl⟩
   rw[← eq1] at c1 hok hbad
   rw[← eq2] at c2 hok hbad
   clear eq1 eq2 hyc g2 hy hn
   obtain⟨xc,xi,⟨ac,ah,ad,ads,ans,an,at',ak⟩⟩:=x
   obtain⟨yc,yi,⟨bc,bh,bd,bds,bns,bn,bt,bk⟩⟩:=y
   replace hok:q1=true→q2=true→(0<k→yc<xc)→∀ i,i<k+1→okLast l i:=hok
   replace hbad:¬ (q1=true∧q2=true∧(0<k→yc<xc))→Q=1:=hbad
   by_cases h0:0<k
   ·have hyk:=hyk h0
    (repeat' first|(refine Na ?_ fun _ _=>?_;(focus lia);cbv)|(refine Ex.known O (LastR.enc O) rfl hx ?_ ?_;(focus lia);cbv)|(refine Ex.known O (LastR.enc O) rfl hyk ?_ ?_;(focus lia);cbv)|(refine CallThen.bool (C.fn (c1)) (fun _=>?_) (fun _=>?_)<;>cbv)|(refine CallThen.bool (C.fn (c2)) (fun _=>?_) (fun _=>?_)<;>cbv)|(refine Back.up [] [] ?_ ?_ fun _ _=>?_;rotate_left 2;cbv;refine And.intro ?_ ?_)|(refine Nl fun _ _ hq=>?_;(try simp only [lenS] at hq);cbv)|(refine Nm fun _ _=>?_;cbv)|(refine Br.t ?_ ?_;(focus first|assumption|lia);cbv)|(refine Br.f ?_ ?_;(focus first|assumption|lia);cbv)|(refine Br.mk (fun _=>?_) (fun _=>?_)<;>cbv)|(refine Need.mk ?_ ?_;rotate_left;cbv)|(refine R0 ?_;cbv))
    all_goals(repeat' apply And.intro)
    all_goals try first
     | exact True.intro
     | exact WkR.refl _
     | (clear hx hyk hok hbad c1 c2;lia)
    all_goals first
     | (refine hbad fun h=>?_;have h3:=h.2.2 h0;clear hx hyk hok hbad c1 c2;first|lia|(simp_all;done))
     | (refine hok (by assumption) (by assumption) fun _=>?_;clear hx hyk hok hbad c1 c2;lia)
     | trace_state
   ·clear hyk
    (repeat' first|(refine Na ?_ fun _ _=>?_;(focus lia);cbv)|(refine Ex.known O (LastR.enc O) rfl hx ?_ ?_;(focus lia);cbv)|(refine CallThen.bool (C.fn (c1)) (fun _=>?_) (fun _=>?_)<;>cbv)|(refine CallThen.bool (C.fn (c2)) (fun _=>?_) (fun _=>?_)<;>cbv)|(refine Back.up [] [] ?_ ?_ fun _ _=>?_;rotate_left 2;cbv;refine And.intro ?_ ?_)|(refine Nl fun _ _ hq=>?_;(try simp only [lenS] at hq);cbv)|(refine Nm fun _ _=>?_;cbv)|(refine Br.t ?_ ?_;(focus first|assumption|lia);cbv)|(refine Br.f ?_ ?_;(focus first|assumption|lia);cbv)|(refine Br.mk (fun _=>?_) (fun _=>?_)<;>cbv)|(refine Need.mk ?_ ?_;rotate_left;cbv)|(refine R0 ?_;cbv))
    all_goals(repeat' apply And.intro)
    all_goals try first
     | exact True.intro
     | exact WkR.refl _
     | (clear hx hok hbad c1 c2;lia)
    all_goals first
     | exact hok (by assumption) (by assumption) fun h=>absurd h h0
     | (refine hbad fun h=>?_;clear hx hok hbad c1 c2;first|lia|(simp_all;done))
     | (exfalso;clear hx hok hbad c1 c2;lia)
     | trace_state
  ·have hq:=hy (lastsOk_good g3 fun i hi=>g2 i (by omega))
   clear hy hn g2
   (repeat' first|(refine Na ?_ fun _ _=>?_;(focus lia);cbv)|(refine Nl fun _ _ hq=>?_;(try simp only [lenS] at hq);cbv)|(refine Nm fun _ _=>?_;cbv)|(refine Br.t ?_ ?_;(focus first|assumption|lia);cbv)|(refine Br.f ?_ ?_;(focus first|assumption|lia);cbv)|(refine Br.mk (fun _=>?_) (fun _=>?_)<;>cbv)|(refine Need.mk ?_ ?_;rotate_left;cbv)|(refine R0 ?_;cbv))
   all_goals first
    | exact⟨hq,trivial⟩
    | exact⟨hq.symm,trivial⟩
    | (exfalso;lia)
    | trace_state
 ·have hq:Q=1:=hn fun h=>hg ⟨h.1,h.2.1,(lastsOk_iff.1 h.2.2).1⟩
  clear hy hn
  refine go (fn:=Proofs.Tryz.f46) (n:=55) (rv:=[ResultVar.tmp 2]) rfl (by decide) rfl (by decide +kernel) rfl rfl (by simp) fun F L C=>?_
  cbv
  (repeat' first|(refine Na ?_ fun _ _=>?_;(focus lia);cbv)|(refine CallThen.mk _ _ (C.fn (k1)) ?_;cbv)|(refine CallThen.mk _ _ (C.fn (k2)) ?_;cbv)|(refine Nl fun _ _ hq=>?_;(try simp only [lenS] at hq);cbv)|(refine Nm fun _ _=>?_;cbv)|(refine Br.t ?_ ?_;(focus first|assumption|lia);cbv)|(refine Br.f ?_ ?_;(focus first|assumption|lia);cbv)|(refine Br.mk (fun _=>?_) (fun _=>?_)<;>cbv)|(refine Need.mk ?_ ?_;rotate_left;cbv)|(refine R0 ?_;cbv))
  all_goals first
   | exact⟨hq,trivial⟩
   | exact⟨hq.symm,trivial⟩
   | (exfalso;clear k1 k2;exact hg ⟨by lia,by lia,by lia⟩)
   | trace_state
end Go.Sym
