/- A request is done, by the document. -/
import Derived.Test.YtfkigahipkndgaaGreatDoorK27
import Derived.Test.YtfkigahipkndgaaGreatDoorK28
import Derived.Test.YtfkigahipkndgaaGreatDoorK29
set_option linter.all false
set_option linter.unusedVariables false
set_option linter.unusedSimpArgs false
namespace Go.Sym
open Go Go.Proofs.Tryz
set_option maxRecDepth 100000
theorem rlast_fn (O:Opq) (d:Depot) (c:Int) (hl:d.last.length≤1099511627776):Fn prog 95 [.agg (d.enc O),.int .i64 c] [] [.int .i64 (O.o (findI (hasL c)) d.last)] []:=by
 have hlen:=Lasts.len O d.last
 obtain⟨docs,⟨base,total,chs,subs⟩,l⟩:=d
 replace hl:l.length≤1099511627776:=hl
 replace hlen:(O.o (Lasts.enc O) l).length=l.length:=hlen
 obtain⟨Q,eQ⟩:∃ Q,Q=O.o (findI (hasL c)) l:=⟨_,rfl⟩
 show Fn prog _ _ _ [.int .i64 (O.o (findI (hasL c)) l)] _
 rw[← eQ]
 rw[O.h] at eQ
 obtain⟨N,hN⟩:∃ N:Nat,N=l.length:=⟨_,rfl⟩
 obtain⟨z,hz⟩:∃ z:Nat,z=0:=⟨_,rfl⟩
 refine go (fn:=Proofs.Tryz.f95) (n:=20) (rv:=[ResultVar.tmp 4]) rfl (by decide) rfl (by decide +kernel) rfl rfl (by simp) fun F L C=>?_
 cbv
 (repeat' first|(refine Na ?_ fun _ _=>?_;(focus lia);cbv)|(refine Nl fun _ _ hq=>?_;(try simp only [lenS] at hq);cbv)|(refine Nm fun _ _=>?_;cbv)|(refine Br.t ?_ ?_;(focus first|assumption|lia);cbv)|(refine Br.f ?_ ?_;(focus first|assumption|lia);cbv)|(refine Br.mk (fun _=>?_) (fun _=>?_)<;>cbv)|(refine Need.mk ?_ ?_;rotate_left;cbv)|(refine R0 ?_;cbv))
 refine LoopThen.mk (C.loopAt (ι:=Nat) [(4,21)] (fun k=>[(4,.int .i64 0),(5,.int .i64 k)]) (fun _=>[(256,.box [.sl false 0 false 2 (O.o (Nms.enc O) docs),.int .i64 base,.int .i64 total,.sl false 0 false 4 (O.o (Chs.enc O) chs),.sl false 0 false 2 (O.o Subs.enc subs),.sl false 0 false 10 (O.o (Lasts.enc O) l)])])
  (fun k=>k≤N∧∀ (j:Nat) y,j<k→l[j]?=some y→hasL c y=false) (fun k=>N-k) (by decide +kernel) (Start.mk z [] [] ⟨by omega,fun j y hj=>by omega⟩ ?_) ?_)
 ·cbv
  (repeat' apply And.intro)<;>first|exact True.intro|exact WkR.refl _|rfl|lia|trace_state
 intro k g
 cbv
 have g1:k≤N:=g.1
 have g2:=g.2
 clear g
 by_cases hk:k<l.length
 ·obtain⟨x,hx⟩:∃ x,l[k]?=some x:=⟨l[k],by simp [hk]⟩
  have hyes:x.client=c→Q=k:=fun h=>by rw[eQ];exact findI_at hx (by simp [hasL,h]) g2
  have hno:x.client≠c→∀ (j:Nat) y,j<k+1→l[j]?=some y→hasL c y=false:=fun h=>srch_step g2 hx (by simp [hasL,h])
  clear g2 eQ
  obtain⟨xc,xi,⟨yc,yh,yd,yds,yns,yn,yt,yk⟩⟩:=x
  replace hyes:xc=c→Q=k:=hyes
  replace hno:xc≠c→∀ (j:Nat) y,j<k+1→l[j]?=some y→hasL c y=false:=hno
  (repeat' first|(refine Na ?_ fun _ _=>?_;(focus lia);cbv)|(refine Ex.known O (LastR.enc O) rfl hx ?_ ?_;(focus lia);cbv)|(refine Back.up [] [] ?_ ?_ fun _ _=>?_;rotate_left 2;cbv;refine And.intro ?_ ?_)|(refine Nl fun _ _ hq=>?_;(try simp only [lenS] at hq);cbv)|(refine Nm fun _ _=>?_;cbv)|(refine Br.t ?_ ?_;(focus first|assumption|lia);cbv)|(refine Br.f ?_ ?_;(focus first|assumption|lia);cbv)|(refine Br.mk (fun _=>?_) (fun _=>?_)<;>cbv)|(refine Need.mk ?_ ?_;rotate_left;cbv)|(refine R0 ?_;cbv))
  all_goals(repeat' apply And.intro)
  all_goals first
   | exact True.intro
   | exact WkR.refl _
   | exact hno (by assumption)
   | (refine(hyes ?_).symm;assumption)
   | (refine hyes ?_;assumption)
   | (clear hx hyes hno;lia)
   | trace_state
 ·have hq:Q=-1:=by rw[eQ];exact findI_none fun j y hj=>g2 j y (by omega)
  clear g2 eQ
  (repeat' first|(refine Na ?_ fun _ _=>?_;(focus lia);cbv)|(refine Nl fun _ _ hq=>?_;(try simp only [lenS] at hq);cbv)|(refine Nm fun _ _=>?_;cbv)|(refine Br.t ?_ ?_;(focus first|assumption|lia);cbv)|(refine Br.f ?_ ?_;(focus first|assumption|lia);cbv)|(refine Br.mk (fun _=>?_) (fun _=>?_)<;>cbv)|(refine Need.mk ?_ ?_;rotate_left;cbv)|(refine R0 ?_;cbv))
  all_goals first
   | exact⟨hq.symm,trivial⟩
   | exact⟨hq,trivial⟩
   | (exfalso;lia)
   | trace_state
set_option maxHeartbeats 4000000 in
theorem rdapply_read (O:Opq) (d:Depot) (q:Reqn) (h:DepIn d) (hs:SmallO q.op 1099511627) (hp:PathsO q.op) (ht:turnsB q.op.kind=false) :
  Fn prog 40 [.agg (d.enc O),.agg (q.en O)] [] [.agg (d.enc O),.agg ((O.o (readsA d) q.op).enc O)] []:=by
 obtain⟨m1,m2,m3⟩:=mayDp_iff.1 h.may
 have k3:=rturns_fn O q.op.kind
 rw[show O.o turnsB q.op.kind=false by rw[O.h];exact ht] at k3
 have k4:=rdreads_fn O d q.op m1 m2 h.chs hs hp
 obtain⟨A,eA⟩:∃ A,A=O.o (readsA d) q.op:=⟨_,rfl⟩
 rw[← eA] at k4 ⊢
 clear eA h hs ht hp m1 m2 m3
 obtain⟨docs,⟨base,total,chs,subs⟩,l⟩:=d
 obtain⟨qc,qi,⟨kind,key,to,doc,want,has,n,most,ops,ods,ons⟩⟩:=q
 obtain⟨ac,ah,ad,ads,ans,an,at',ak⟩:=A
 refine go (fn:=Proofs.Tryz.f40) (n:=158) (rv:=[ResultVar.cell 4 65,ResultVar.cell 5 37]) rfl (by decide) rfl (by decide +kernel) rfl rfl (by simp) fun F L C=>?_
 cbv
 (repeat' first|(refine Na ?_ fun _ _=>?_;(focus lia);cbv)|(refine CallThen.mk _ _ (C.fn (k3)) ?_;cbv)|(refine CallThen.mk _ _ (C.fn (k4)) ?_;cbv)|(refine Nl fun _ _ hq=>?_;(try simp only [lenS] at hq);cbv)|(refine Nm fun _ _=>?_;cbv)|(refine Br.t ?_ ?_;(focus first|assumption|lia);cbv)|(refine Br.f ?_ ?_;(focus first|assumption|lia);cbv)|(refine Br.mk (fun _=>?_) (fun _=>?_)<;>cbv)|(refine Need.mk ?_ ?_;rotate_left;cbv)|(refine R0 ?_;cbv))
 all_goals(repeat' apply And.intro)
 all_goals first
  | exact True.intro
  | exact WkR.refl _
  | rfl
  | trace_state
set_option maxHeartbeats 4000000 in
theorem rdapply_zero (O:Opq) (d:Depot) (q:Reqn) (h:DepIn d) (hs:SmallO q.op 1099511627) (hp:PathsO q.op) (ht:turnsB q.op.kind=true) (hc:q.client=0) (D2:List Ndoc) (F2:Feed) (A2:Answer) (hT:turnR d q.op=(⟨D2,F2,d.last⟩,A2)) :
  Fn prog 40 [.agg (d.enc O),.agg (q.en O)] [] [.agg (Depot.enc O ⟨D2,F2,d.last⟩),.agg (A2.enc O)] []:=by
 obtain⟨m1,m2,m3⟩:=mayDp_iff.1 h.may
 have k3:=rturns_fn O q.op.kind
 rw[show O.o turnsB q.op.kind=true by rw[O.h];exact ht] at k3
 have k4:=rdturn_fn O d q.op m1 m2 h.chs hs hp D2 F2 A2 hT
 clear h hs ht hT hp m1 m2 m3
 obtain⟨docs,⟨base,total,chs,subs⟩,l⟩:=d
 obtain⟨qc,qi,⟨kind,key,to,doc,want,has,n,most,ops,ods,ons⟩⟩:=q
 obtain⟨ac,ah,ad,ads,ans,an,at',ak⟩:=A2
 obtain⟨fb,ft,fc,fs⟩:=F2
 replace hc:qc=0:=hc
 subst hc
 refine go (fn:=Proofs.Tryz.f40) (n:=158) (rv:=[ResultVar.cell 4 65,ResultVar.cell 5 37]) rfl (by decide) rfl (by decide +kernel) rfl rfl (by simp) fun F L C=>?_
 cbv
 (repeat' first|(refine Na ?_ fun _ _=>?_;(focus lia);cbv)|(refine CallThen.mk _ _ (C.fn (k3)) ?_;cbv)|(refine CallThen.mk _ _ (C.fn (k4)) ?_;cbv)|(refine Nl fun _ _ hq=>?_;(try simp only [lenS] at hq);cbv)|(refine Nm fun _ _=>?_;cbv)|(refine Br.t ?_ ?_;(focus first|assumption|lia);cbv)|(refine Br.f ?_ ?_;(focus first|assumption|lia);cbv)|(refine Br.mk (fun _=>?_) (fun _=>?_)<;>cbv)|(refine Need.mk ?_ ?_;rotate_left;cbv)|(refine R0 ?_;cbv))
 all_goals(repeat' apply And.intro)
 all_goals first
  | exact True.intro
  | exact WkR.refl _
  | rfl
  | trace_state
set_option maxHeartbeats 8000000 in
theorem rdapply_told (O:Opq) (d:Depot) (q:Reqn) (h:DepIn d) (ht:turnsB q.op.kind=true) (hc:q.client≠0) (a:Answer) (hT:toldL d.last q.client q.id=some a) :
  Fn prog 40 [.agg (d.enc O),.agg (q.en O)] [] [.agg (d.enc O),.agg (a.enc O)] []:=by
 obtain⟨m1,m2,m3⟩:=mayDp_iff.1 h.may
 have k3:=rturns_fn O q.op.kind
 rw[show O.o turnsB q.op.kind=true by rw[O.h];exact ht] at k3
 have hl8:=(lastsOk_iff.1 m3).1
 have k4:=rlast_fn O d q.client (by omega)
 have k5:=rcount_fn O q.client
 have k6:=rcount_fn O q.id
 have hlen:=Lasts.len O d.last
 have hs:=(lastsOk_iff.1 m3).2.2
 unfold toldL at hT
 by_cases hcc:countB q.client=true∧countB q.id=true
 ·rw[if_neg (fun n=>n hcc)] at hT
  rw[show O.o (findI (hasL q.client)) d.last=if getL d.last q.client=true then(posL d.last q.client:Int) else -1 by rw[O.h,posL_find hs]] at k4
  rw[show O.o countB q.client=true by rw[O.h];exact hcc.1] at k5
  rw[show O.o countB q.id=true by rw[O.h];exact hcc.2] at k6
  cases hg:getL d.last q.client with
  | true =>
   obtain⟨x,hx,he⟩:=posL_there hs hg
   rw[hg,lastA_at hx] at hT
   rw[hg,if_pos rfl] at k4
   obtain⟨p,ep⟩:∃ p,p=posL d.last q.client:=⟨_,rfl⟩
   rw[← ep] at hx k4
   have hpl:(p:Int)<(O.o (Lasts.enc O) d.last).length:=by have:=(List.getElem?_eq_some_iff.1 hx).1;rw[hlen];omega
   by_cases hi:x.id=q.id
   ·rw[if_pos ⟨rfl,hi⟩] at hT
    cases hT
    clear h ht hs hcc hg ep he m1 m2 m3
    obtain⟨docs,⟨base,total,chs,subs⟩,l⟩:=d
    obtain⟨qc,qi,⟨kind,key,to,doc,want,has,n,most,ops,ods,ons⟩⟩:=q
    obtain⟨xc,xi,⟨ac,ah,ad,ads,ans,an,at',ak⟩⟩:=x
    replace hi:xi=qi:=hi
    replace hc:qc≠0:=hc
    refine go (fn:=Proofs.Tryz.f40) (n:=158) (rv:=[ResultVar.cell 4 65,ResultVar.cell 5 37]) rfl (by decide) rfl (by decide +kernel) rfl rfl (by simp) fun F L C=>?_
    cbv
    (repeat' first|(refine Na ?_ fun _ _=>?_;(focus lia);cbv)|(refine CallThen.mk _ _ (C.fn (k3)) ?_;cbv)|(refine CallThen.mk _ _ (C.fn (k4)) ?_;cbv)|(refine CallThen.mk _ _ (C.fn (k5)) ?_;cbv)|(refine CallThen.mk _ _ (C.fn (k6)) ?_;cbv)|(refine Ex.known O (LastR.enc O) rfl hx ?_ ?_;(focus lia);cbv)|(refine CallThen.mk _ _ (C.fn (coded_fn O _)) ?_;cbv)|(refine Nl fun _ _ hq=>?_;(try simp only [lenS] at hq);cbv)|(refine Nm fun _ _=>?_;cbv)|(refine Br.t ?_ ?_;(focus first|assumption|lia);cbv)|(refine Br.f ?_ ?_;(focus first|assumption|lia);cbv)|(refine Br.mk (fun _=>?_) (fun _=>?_)<;>cbv)|(refine Need.mk ?_ ?_;rotate_left;cbv)|(refine R0 ?_;cbv))
    all_goals try first
     | (exfalso;clear k3 k4 k5 k6 hx;lia)
     | (clear k3 k4 k5 k6 hx;lia)
    all_goals(repeat' apply And.intro)
    all_goals first
     | exact True.intro
     | exact WkR.refl _
     | rfl
     | exact Int.natCast_nonneg _
     | exact hpl
     | trace_state
   ·rw[if_neg (fun k=>hi k.2)] at hT
    by_cases hj:q.id<x.id
    ·rw[if_pos ⟨rfl,hj⟩] at hT
     cases hT
     clear h ht hs hcc hg ep he m1 m2 m3
     obtain⟨docs,⟨base,total,chs,subs⟩,l⟩:=d
     obtain⟨qc,qi,⟨kind,key,to,doc,want,has,n,most,ops,ods,ons⟩⟩:=q
     obtain⟨xc,xi,⟨ac,ah,ad,ads,ans,an,at',ak⟩⟩:=x
     replace hj:qi<xi:=hj
     replace hi:¬ xi=qi:=hi
     replace hc:qc≠0:=hc
     refine go (fn:=Proofs.Tryz.f40) (n:=158) (rv:=[ResultVar.cell 4 65,ResultVar.cell 5 37]) rfl (by decide) rfl (by decide +kernel) rfl rfl (by simp) fun F L C=>?_
     cbv
     (repeat' first|(refine Na ?_ fun _ _=>?_;(focus lia);cbv)|(refine CallThen.mk _ _ (C.fn (k3)) ?_;cbv)|(refine CallThen.mk _ _ (C.fn (k4)) ?_;cbv)|(refine CallThen.mk _ _ (C.fn (k5)) ?_;cbv)|(refine CallThen.mk _ _ (C.fn (k6)) ?_;cbv)|(refine Ex.known O (LastR.enc O) rfl hx ?_ ?_;(focus lia);cbv)|(refine CallThen.mk _ _ (C.fn (coded_fn O _)) ?_;cbv)|(refine Nl fun _ _ hq=>?_;(try simp only [lenS] at hq);cbv)|(refine Nm fun _ _=>?_;cbv)|(refine Br.t ?_ ?_;(focus first|assumption|lia);cbv)|(refine Br.f ?_ ?_;(focus first|assumption|lia);cbv)|(refine Br.mk (fun _=>?_) (fun _=>?_)<;>cbv)|(refine Need.mk ?_ ?_;rotate_left;cbv)|(refine R0 ?_;cbv))
     all_goals try first
      | (exfalso;clear k3 k4 k5 k6 hx;lia)
      | (clear k3 k4 k5 k6 hx;lia)
     all_goals(repeat' apply And.intro)
     all_goals first
      | exact True.intro
      | exact WkR.refl _
      | rfl
      | exact Int.natCast_nonneg _
      | exact hpl
      | trace_state
    ·rw[if_neg (fun k=>hj k.2),if_neg (by simp)] at hT
     cases hT
  | false =>
   rw[hg] at hT k4
   rw[if_neg (by simp)] at k4
   rw[if_neg (by simp),if_neg (by simp)] at hT
   by_cases h8:d.last.length=8
   ·rw[if_pos ⟨rfl,h8⟩] at hT
    cases hT
    have hpl:=hlen
    clear h ht hs hcc hg m1 m2 m3
    obtain⟨docs,⟨base,total,chs,subs⟩,l⟩:=d
    obtain⟨qc,qi,⟨kind,key,to,doc,want,has,n,most,ops,ods,ons⟩⟩:=q
    replace h8:l.length=8:=h8
    replace hc:qc≠0:=hc
    replace hlen:(O.o (Lasts.enc O) l).length=l.length:=hlen
    refine go (fn:=Proofs.Tryz.f40) (n:=158) (rv:=[ResultVar.cell 4 65,ResultVar.cell 5 37]) rfl (by decide) rfl (by decide +kernel) rfl rfl (by simp) fun F L C=>?_
    cbv
    (repeat' first|(refine Na ?_ fun _ _=>?_;(focus lia);cbv)|(refine CallThen.mk _ _ (C.fn (k3)) ?_;cbv)|(refine CallThen.mk _ _ (C.fn (k4)) ?_;cbv)|(refine CallThen.mk _ _ (C.fn (k5)) ?_;cbv)|(refine CallThen.mk _ _ (C.fn (k6)) ?_;cbv)|(fail)|(refine CallThen.mk _ _ (C.fn (coded_fn O _)) ?_;cbv)|(refine Nl fun _ _ hq=>?_;(try simp only [lenS] at hq);cbv)|(refine Nm fun _ _=>?_;cbv)|(refine Br.t ?_ ?_;(focus first|assumption|lia);cbv)|(refine Br.f ?_ ?_;(focus first|assumption|lia);cbv)|(refine Br.mk (fun _=>?_) (fun _=>?_)<;>cbv)|(refine Need.mk ?_ ?_;rotate_left;cbv)|(refine R0 ?_;cbv))
    all_goals try first
     | (exfalso;clear k3 k4 k5 k6 hpl;lia)
     | (clear k3 k4 k5 k6 hpl;lia)
    all_goals(repeat' apply And.intro)
    all_goals first
     | exact True.intro
     | exact WkR.refl _
     | rfl
     | exact Int.natCast_nonneg _
     | exact hpl
     | trace_state
   ·rw[if_neg (fun k=>h8 k.2)] at hT
    cases hT
 ·rw[if_pos hcc] at hT
  cases hT
  have hpl:=hlen
  have hcc:¬ (O.o countB q.client=true∧O.o countB q.id=true):=by rw[O.h];exact hcc
  obtain⟨c1,ec1⟩:∃ c,c=O.o countB q.client:=⟨_,rfl⟩
  obtain⟨c2,ec2⟩:∃ c,c=O.o countB q.id:=⟨_,rfl⟩
  rw[← ec1] at k5 hcc
  rw[← ec2] at k6 hcc
  clear h ht hs ec1 ec2 m1 m2 m3
  obtain⟨docs,⟨base,total,chs,subs⟩,l⟩:=d
  obtain⟨qc,qi,⟨kind,key,to,doc,want,has,n,most,ops,ods,ons⟩⟩:=q
  replace hc:qc≠0:=hc
  cases c1<;>cases c2
  all_goals try(exfalso;exact hcc ⟨rfl,rfl⟩)
  all_goals
   refine go (fn:=Proofs.Tryz.f40) (n:=158) (rv:=[ResultVar.cell 4 65,ResultVar.cell 5 37]) rfl (by decide) rfl (by decide +kernel) rfl rfl (by simp) fun F L C=>?_
   cbv
   (repeat' first|(refine Na ?_ fun _ _=>?_;(focus lia);cbv)|(refine CallThen.mk _ _ (C.fn (k3)) ?_;cbv)|(refine CallThen.mk _ _ (C.fn (k4)) ?_;cbv)|(refine CallThen.mk _ _ (C.fn (k5)) ?_;cbv)|(refine CallThen.mk _ _ (C.fn (k6)) ?_;cbv)|(fail)|(refine CallThen.mk _ _ (C.fn (coded_fn O _)) ?_;cbv)|(refine Nl fun _ _ hq=>?_;(try simp only [lenS] at hq);cbv)|(refine Nm fun _ _=>?_;cbv)|(refine Br.t ?_ ?_;(focus first|assumption|lia);cbv)|(refine Br.f ?_ ?_;(focus first|assumption|lia);cbv)|(refine Br.mk (fun _=>?_) (fun _=>?_)<;>cbv)|(refine Need.mk ?_ ?_;rotate_left;cbv)|(refine R0 ?_;cbv))
   all_goals try first
    | (exfalso;clear k3 k4 k5 k6 hcc;lia)
    | (clear k3 k4 k5 k6 hcc;lia)
   all_goals(repeat' apply And.intro)
   all_goals first
    | exact True.intro
    | exact WkR.refl _
    | rfl
    | exact Int.natCast_nonneg _
    | exact hpl
    | trace_state
theorem Lasts.snoc (O:Opq) (l:List LastR) (x:LastR):O.o (Lasts.enc O) (l++[x])=O.o (Lasts.enc O) l++[LastR.enc O x]:=by
 simp only [O.h];simp [Lasts.enc]
set_option maxHeartbeats 8000000 in
theorem rdapply_put (O:Opq) (d:Depot) (q:Reqn) (h:DepIn d) (hso:SmallO q.op 1099511627) (hp:PathsO q.op) (ht:turnsB q.op.kind=true) (hc:q.client≠0) (hN:toldL d.last q.client q.id=none) (D2:List Ndoc) (F2:Feed) (A2:Answer) (hT:turnR d q.op=(⟨D2,F2,d.last⟩,A2)) :
  Fn prog 40 [.agg (d.enc O),.agg (q.en O)] [] [.agg (Depot.enc O ⟨D2,F2,putL d.last ⟨q.client,q.id,A2⟩⟩),.agg (A2.enc O)] []:=by
 obtain⟨m1,m2,m3⟩:=mayDp_iff.1 h.may
 have k3:=rturns_fn O q.op.kind
 rw[show O.o turnsB q.op.kind=true by rw[O.h];exact ht] at k3
 have hl8:=(lastsOk_iff.1 m3).1
 have k4:=rlast_fn O d q.client (by omega)
 have k5:=rcount_fn O q.client
 have k6:=rcount_fn O q.id
 have k7:=rdturn_fn O d q.op m1 m2 h.chs hso hp D2 F2 A2 hT
 have hlen:=Lasts.len O d.last
 have hs:=(lastsOk_iff.1 m3).2.2
 unfold toldL at hN
 have hcc:countB q.client=true∧countB q.id=true:=by
  by_cases hcc:countB q.client=true∧countB q.id=true
  ·exact hcc
  ·rw[if_pos hcc] at hN;cases hN
 rw[if_neg (fun n=>n hcc)] at hN
 rw[show O.o countB q.client=true by rw[O.h];exact hcc.1] at k5
 rw[show O.o countB q.id=true by rw[O.h];exact hcc.2] at k6
 have hI:∃ I:Int,O.o (findI (hasL q.client)) d.last=I∧(0≤I→∃ (p:Nat) (x:LastR),I=p∧d.last[p]?=some x∧¬ q.id≤x.id)∧(I<0→d.last.length≠8):=by
  refine⟨_,rfl,?_,?_⟩
  ·rw[O.h,posL_find hs]
   intro h0
   cases hg:getL d.last q.client with
   | true =>
    obtain⟨x,hx,he⟩:=posL_there hs hg
    rw[hg,lastA_at hx] at hN
    have hi:x.id≠q.id:=fun e=>by rw[if_pos ⟨rfl,e⟩] at hN;cases hN
    rw[if_neg (fun k=>hi k.2)] at hN
    have hj:¬ q.id<x.id:=fun e=>by rw[if_pos ⟨rfl,e⟩] at hN;cases hN
    exact⟨_,x,by rw[if_pos rfl],hx,by omega⟩
   | false=>rw[hg] at h0;simp at h0
  ·rw[O.h,posL_find hs]
   intro h0
   cases hg:getL d.last q.client with
   | true=>rw[hg,if_pos rfl] at h0;omega
   | false =>
    intro e
    rw[if_neg (by simp [hg]),if_neg (by simp [hg]),if_pos ⟨hg,e⟩] at hN;cases hN
 obtain⟨I,eI,hI1,hI2⟩:=hI
 rw[eI] at k4
 obtain⟨W,eW⟩:∃ W,W=putL d.last ⟨q.client,q.id,A2⟩:=⟨_,rfl⟩
 have hR:rputL ⟨q.client,q.id,A2⟩ false d.last=W:=by rw[eW,rputL_eq hs]
 rw[← eW]
 have hemp:O.o (Lasts.enc O) []=[]:=by rw[O.h];rfl
 obtain⟨nl,enl⟩:∃ l:List LastR,l=[]:=⟨_,rfl⟩
 rw[← enl] at hemp
 clear eW hcc hN hT h hso ht hs m1 m2 m3 hp eI
 obtain⟨docs,⟨base,total,chs,subs⟩,l⟩:=d
 obtain⟨qc,qi,⟨kind,key,to,doc,want,has,n,most,ops,ods,ons⟩⟩:=q
 obtain⟨ac,ah,ad,ads,ans,an,at',ak⟩:=A2
 obtain⟨fb,ft,fc,fs⟩:=F2
 replace hc:qc≠0:=hc
 replace hl8:l.length≤8:=hl8
 replace hlen:(O.o (Lasts.enc O) l).length=l.length:=hlen
 replace hI1:0≤I→∃ (p:Nat) (x:LastR),I=p∧l[p]?=some x∧¬ qi≤x.id:=hI1
 replace hI2:I<0→l.length≠8:=hI2
 replace hR:rputL ⟨qc,qi,⟨ac,ah,ad,ads,ans,an,at',ak⟩⟩ false l=W:=hR
 obtain⟨N,hNl⟩:∃ N:Nat,N=l.length:=⟨_,rfl⟩
 obtain⟨z,hz⟩:∃ z:Nat,z=0:=⟨_,rfl⟩
 obtain⟨X,eX⟩:∃ X:LastR,X=⟨qc,qi,⟨ac,ah,ad,ads,ans,an,at',ak⟩⟩:=⟨_,rfl⟩
 have hXe:LastR.enc O X=[.int .i64 qc,.int .i64 qi,.int .i64 ac,.bool ah,.sl false 0 false 6 (O.o Doc.enc ad),.sl false 0 false 2 (O.o (Nms.enc O) ads),.sl false 0 false 4 (O.o (Chs.enc O) ans),.int .i64 an,.int .i64 at',.sl false 0 false 2 (O.o Prs.enc ak)]:=by rw[eX];rfl
 have hXc:X.client=qc:=by rw[eX]
 rw[← eX] at hR
 have main:∀ (p:Nat) (x:LastR),(0≤I→I=p∧l[p]?=some x∧¬ qi≤x.id)→Fn prog 40 [.agg (Depot.enc O ⟨docs,⟨base,total,chs,subs⟩,l⟩),.agg (Reqn.en O ⟨qc,qi,.mk kind key to doc want has n most ops ods ons⟩)] [] [.agg (Depot.enc O ⟨D2,⟨fb,ft,fc,fs⟩,W⟩),.agg (Answer.enc O ⟨ac,ah,ad,ads,ans,an,at',ak⟩)] []:=by
  intro p x hpx
  have hpl:0≤I→(p:Int)<(O.o (Lasts.enc O) l).length:=fun h=>by have:=(List.getElem?_eq_some_iff.1 (hpx h).2.1).1;omega
  have hxid:0≤I→¬ qi≤x.id:=fun h=>(hpx h).2.2
  have hIp:0≤I→I=p:=fun h=>(hpx h).1
  have hxp:0≤I→l[p]?=some x:=fun h=>(hpx h).2.1
  clear hI1 hpx
  obtain⟨xc,xi,⟨yc,yh,yd,yds,yns,yn,yt,yk⟩⟩:=x
  replace hxid:0≤I→¬ qi≤xi:=hxid
  refine go (fn:=Proofs.Tryz.f40) (n:=158) (rv:=[ResultVar.cell 4 65,ResultVar.cell 5 37]) rfl (by decide) rfl (by decide +kernel) rfl rfl (by simp) fun F L C=>?_
  cbv
  by_cases hI0:0≤I
  ·have hxp2:=hxp hI0
   have hIp2:=hIp hI0
   have hxid2:=hxid hI0
   have hpl2:=hpl hI0
   clear hxp hIp hxid hpl hI2
   (repeat' first|(refine Na ?_ fun _ _=>?_;(focus lia);cbv)|(refine CallThen.mk _ _ (C.fn (k3)) ?_;cbv)|(refine CallThen.mk _ _ (C.fn (k4)) ?_;cbv)|(refine CallThen.mk _ _ (C.fn (k5)) ?_;cbv)|(refine CallThen.mk _ _ (C.fn (k6)) ?_;cbv)|(refine Ex.known O (LastR.enc O) rfl hxp2 ?_ ?_;(focus lia);cbv)|(refine CallThen.mk _ _ (C.fn (k7)) ?_;cbv)|(refine Nl fun _ _ hq=>?_;(try simp only [lenS] at hq);cbv)|(refine Nm fun _ _=>?_;cbv)|(refine Br.t ?_ ?_;(focus first|assumption|lia);cbv)|(refine Br.f ?_ ?_;(focus first|assumption|lia);cbv)|(refine Br.mk (fun _=>?_) (fun _=>?_)<;>cbv)|(refine Need.mk ?_ ?_;rotate_left;cbv)|(refine R0 ?_;cbv))
   all_goals try(exfalso;clear k3 k4 k5 k6 k7 hxp2 hR;lia)
   all_goals try(clear k3 k4 k5 k6 k7 hxp2 hR;lia)
   clear hIp2 hxid2 hpl2 hxp2
   refine LoopThen.mk (C.loopAt (ι:=Nat×Bool×List LastR) [(8,10),(99,144)] (fun x=>[(8,.ref 6400),(9,.bool x.2.1),(10,.int .i64 x.1),(98,.top)]) (fun x=>[(6400,.arr 0 none 10 (O.o (Lasts.enc O) x.2.2)),(256,.box [.sl false 0 false 2 (O.o (Nms.enc O) D2),.int .i64 fb,.int .i64 ft,.sl false 0 false 4 (O.o (Chs.enc O) fc),.sl false 0 false 2 (O.o Subs.enc fs),.sl false 0 false 10 (O.o (Lasts.enc O) l)]),(320,.box [.int .i64 qc,.int .i64 qi,.int .i64 kind,.str key,.str to,.sl false 0 false 6 (O.o Doc.enc doc),.sl false 0 false 6 (O.o Doc.enc want),.bool has,.int .i64 n,.int .i64 most,.sl false 0 false 11 (O.o (Ops.enc O) ops),.sl false 0 false 2 (O.o (Nms.enc O) ods),.sl false 0 false 4 (O.o (Chs.enc O) ons)]),(384,.box [.nils,.int .i64 0,.int .i64 0,.nils,.nils,.nils]),(448,.box [.int .i64 0,.bool false,.nils,.nils,.nils,.int .i64 0,.int .i64 0,.nils]),(576,.box [.int .i64 ac,.bool ah,.sl false 0 false 6 (O.o Doc.enc ad),.sl false 0 false 2 (O.o (Nms.enc O) ads),.sl false 0 false 4 (O.o (Chs.enc O) ans),.int .i64 an,.int .i64 at',.sl false 0 false 2 (O.o Prs.enc ak)])])
    (fun x=>x.1≤N∧x.2.2.length≤2 * x.1∧x.2.2++rputL X x.2.1 (l.drop x.1)=W) (fun x=>N-x.1) (by decide +kernel) (Start.mk (z,false,nl) [] [] ⟨by show z≤N;omega,by show nl.length≤_;rw[enl];exact Nat.zero_le _,by show nl++rputL X false (l.drop z)=W;rw[enl,hz];exact hR⟩ ?_) ?_)
   ·cbv
    (repeat' apply And.intro)<;>first|exact True.intro|exact WkR.refl _|rfl|exact .of_eq hemp|exact hemp|lia|trace_state
   clear hR hemp enl hI0 k3 k4 k5 k6 k7 eX
   intro x g
   cbv
   obtain⟨k,put,out⟩:=x
   have g1:k≤N:=g.1
   have g2:out.length≤2 * k:=g.2.1
   have g3:out++rputL X put (l.drop k)=W:=g.2.2
   clear g
   have hol:=Lasts.len O out
   by_cases hk:k<l.length
   ·obtain⟨x,hx⟩:∃ x,l[k]?=some x:=⟨l[k],by simp [hk]⟩
    have hdr:l.drop k=x::l.drop (k+1):=by
     obtain⟨_,e⟩:=List.getElem?_eq_some_iff.1 hx
     rw[List.drop_eq_getElem_cons hk,e]
    rw[hdr,rputL,hXc] at g3
    obtain⟨r,er⟩:∃ r,r=l.drop (k+1):=⟨_,rfl⟩
    rw[← er] at g3
    clear hdr
    by_cases hge:qc≤x.client
    ·rw[show decide (qc≤x.client)=true by simpa using hge,Bool.or_true] at g3
     by_cases hne:x.client≠qc
     ·rw[if_pos hne] at g3
      cases put with
      | true =>
       rw[if_neg (by simp)] at g3
       have g3:(out++[x])++rputL X true (l.drop (k+1))=W:=by rw[← er];simpa using g3
       clear er
       have hX1:LastR.enc O x=LastR.enc O x:=rfl
       obtain⟨xc,xi,⟨yc,yh,yd,yds,yns,yn,yt,yk⟩⟩:=x
       replace hge:qc≤xc:=hge
       replace hne:xc≠qc:=hne
       (repeat' first|(refine Na ?_ fun _ _=>?_;(focus lia);cbv)|(refine Ex.known O (LastR.enc O) rfl hx ?_ ?_;(focus lia);cbv)|(refine Back.to (k+1,true,out++[⟨xc,xi,⟨yc,yh,yd,yds,yns,yn,yt,yk⟩⟩]) [(6400,.loc 9344)] [] ?_ fun _ _=>?_;rotate_left;cbv)|(refine Nl fun _ _ hq=>?_;(try simp only [lenS] at hq);cbv)|(refine Nm fun _ _=>?_;cbv)|(refine Br.t ?_ ?_;(focus first|assumption|lia);cbv)|(refine Br.f ?_ ?_;(focus first|assumption|lia);cbv)|(refine Br.mk (fun _=>?_) (fun _=>?_)<;>cbv)|(refine Need.mk ?_ ?_;rotate_left;cbv)|(refine R0 ?_;cbv))
       all_goals try first
        | (exfalso;clear hx;lia)
        | (clear hx;lia)
        | (simp only [List.length_append,List.length_cons,List.length_nil];clear hx;lia)
        | (simp only [List.length_append,List.length_cons,List.length_nil] at hq ⊢;clear hx;lia)
        | exact⟨⟨by show k+1≤N;omega,by simp only [List.length_append,List.length_cons,List.length_nil];omega,g3⟩,by show N-(k+1)<N-k;omega⟩
       all_goals
        rename_i y ey
        subst ey
        (repeat' apply And.intro)<;>first
         | exact True.intro
         | exact WkR.refl _
         | rfl
         | (dsimp only;clear hx;lia)
         | (refine WkR.of_eq ?_;subst_vars;exact hsn)
         | (refine WkR.of_eq ?_;subst_vars;first|exact Lasts.snoc O _ _|(refine(Lasts.snoc O _ _).trans ?_;rw[Lasts.snoc O];rfl)|rfl)
         | trace_state
      | false =>
       rw[if_pos ⟨rfl,hge⟩] at g3
       have g3:(out++[X]++[x])++rputL X true (l.drop (k+1))=W:=by rw[← er];simpa using g3
       have hsn:O.o (Lasts.enc O) (out++[X]++[x])=O.o (Lasts.enc O) out++[LastR.enc O X]++[LastR.enc O x]:=by rw[Lasts.snoc,Lasts.snoc]
       rw[hXe] at hsn
       clear er
       obtain⟨xc,xi,⟨yc,yh,yd,yds,yns,yn,yt,yk⟩⟩:=x
       replace hge:qc≤xc:=hge
       replace hne:xc≠qc:=hne
       (repeat' first|(refine Na ?_ fun _ _=>?_;(focus lia);cbv)|(refine Ex.known O (LastR.enc O) rfl hx ?_ ?_;(focus lia);cbv)|(refine Back.to (k+1,true,out++[X]++[⟨xc,xi,⟨yc,yh,yd,yds,yns,yn,yt,yk⟩⟩]) [(6400,.loc 9344)] [] ?_ fun _ _=>?_;rotate_left;cbv)|(refine Nl fun _ _ hq=>?_;(try simp only [lenS] at hq);cbv)|(refine Nm fun _ _=>?_;cbv)|(refine Br.t ?_ ?_;(focus first|assumption|lia);cbv)|(refine Br.f ?_ ?_;(focus first|assumption|lia);cbv)|(refine Br.mk (fun _=>?_) (fun _=>?_)<;>cbv)|(refine Need.mk ?_ ?_;rotate_left;cbv)|(refine R0 ?_;cbv))
       all_goals try first
        | (exfalso;clear hx;lia)
        | (clear hx;lia)
        | (simp only [List.length_append,List.length_cons,List.length_nil];clear hx;lia)
        | (simp only [List.length_append,List.length_cons,List.length_nil] at hq ⊢;clear hx;lia)
        | exact⟨⟨by show k+1≤N;omega,by simp only [List.length_append,List.length_cons,List.length_nil];omega,g3⟩,by show N-(k+1)<N-k;omega⟩
       all_goals
        rename_i y ey
        subst ey
        (repeat' apply And.intro)<;>first
         | exact True.intro
         | exact WkR.refl _
         | rfl
         | (dsimp only;clear hx;lia)
         | (refine WkR.of_eq ?_;subst_vars;exact hsn)
         | (refine WkR.of_eq ?_;subst_vars;first|exact Lasts.snoc O _ _|(refine(Lasts.snoc O _ _).trans ?_;rw[Lasts.snoc O];rfl)|rfl)
         | trace_state
     ·rw[if_neg hne] at g3
      cases put with
      | true =>
       rw[if_neg (by simp)] at g3
       have g3:out++rputL X true (l.drop (k+1))=W:=by rw[← er];simpa using g3
       clear er
       obtain⟨xc,xi,⟨yc,yh,yd,yds,yns,yn,yt,yk⟩⟩:=x
       replace hge:qc≤xc:=hge
       replace hne:¬ xc≠qc:=hne
       (repeat' first|(refine Na ?_ fun _ _=>?_;(focus lia);cbv)|(refine Ex.known O (LastR.enc O) rfl hx ?_ ?_;(focus lia);cbv)|(refine Back.to (k+1,true,out) [] [] ?_ fun _ _=>?_;rotate_left;cbv)|(refine Nl fun _ _ hq=>?_;(try simp only [lenS] at hq);cbv)|(refine Nm fun _ _=>?_;cbv)|(refine Br.t ?_ ?_;(focus first|assumption|lia);cbv)|(refine Br.f ?_ ?_;(focus first|assumption|lia);cbv)|(refine Br.mk (fun _=>?_) (fun _=>?_)<;>cbv)|(refine Need.mk ?_ ?_;rotate_left;cbv)|(refine R0 ?_;cbv))
       all_goals try first
        | (exfalso;clear hx;lia)
        | (clear hx;lia)
        | (simp only [List.length_append,List.length_cons,List.length_nil];clear hx;lia)
        | (simp only [List.length_append,List.length_cons,List.length_nil] at hq ⊢;clear hx;lia)
        | exact⟨⟨by show k+1≤N;omega,by simp only [List.length_append,List.length_cons,List.length_nil];omega,g3⟩,by show N-(k+1)<N-k;omega⟩
       all_goals
        rename_i y ey
        subst ey
        (repeat' apply And.intro)<;>first
         | exact True.intro
         | exact WkR.refl _
         | rfl
         | (dsimp only;clear hx;lia)
         | (refine WkR.of_eq ?_;subst_vars;exact hsn)
         | (refine WkR.of_eq ?_;subst_vars;first|exact Lasts.snoc O _ _|(refine(Lasts.snoc O _ _).trans ?_;rw[Lasts.snoc O];rfl)|rfl)
         | trace_state
      | false =>
       rw[if_pos ⟨rfl,hge⟩] at g3
       have g3:(out++[X])++rputL X true (l.drop (k+1))=W:=by rw[← er];simpa using g3
       have hsn:O.o (Lasts.enc O) (out++[X])=O.o (Lasts.enc O) out++[LastR.enc O X]:=Lasts.snoc O _ _
       rw[hXe] at hsn
       clear er
       obtain⟨xc,xi,⟨yc,yh,yd,yds,yns,yn,yt,yk⟩⟩:=x
       replace hge:qc≤xc:=hge
       replace hne:¬ xc≠qc:=hne
       (repeat' first|(refine Na ?_ fun _ _=>?_;(focus lia);cbv)|(refine Ex.known O (LastR.enc O) rfl hx ?_ ?_;(focus lia);cbv)|(refine Back.to (k+1,true,out++[X]) [(6400,.loc 8256)] [] ?_ fun _ _=>?_;rotate_left;cbv)|(refine Nl fun _ _ hq=>?_;(try simp only [lenS] at hq);cbv)|(refine Nm fun _ _=>?_;cbv)|(refine Br.t ?_ ?_;(focus first|assumption|lia);cbv)|(refine Br.f ?_ ?_;(focus first|assumption|lia);cbv)|(refine Br.mk (fun _=>?_) (fun _=>?_)<;>cbv)|(refine Need.mk ?_ ?_;rotate_left;cbv)|(refine R0 ?_;cbv))
       all_goals try first
        | (exfalso;clear hx;lia)
        | (clear hx;lia)
        | (simp only [List.length_append,List.length_cons,List.length_nil];clear hx;lia)
        | (simp only [List.length_append,List.length_cons,List.length_nil] at hq ⊢;clear hx;lia)
        | exact⟨⟨by show k+1≤N;omega,by simp only [List.length_append,List.length_cons,List.length_nil];omega,g3⟩,by show N-(k+1)<N-k;omega⟩
       all_goals
        rename_i y ey
        subst ey
        (repeat' apply And.intro)<;>first
         | exact True.intro
         | exact WkR.refl _
         | rfl
         | (dsimp only;clear hx;lia)
         | (refine WkR.of_eq ?_;subst_vars;exact hsn)
         | (refine WkR.of_eq ?_;subst_vars;first|exact Lasts.snoc O _ _|(refine(Lasts.snoc O _ _).trans ?_;rw[Lasts.snoc O];rfl)|rfl)
         | trace_state
    ·have hne:x.client≠qc:=by omega
     rw[show decide (qc≤x.client)=false by simpa using hge,Bool.or_false,if_pos hne,if_neg (fun k=>hge k.2)] at g3
     have g3:(out++[x])++rputL X put (l.drop (k+1))=W:=by rw[← er];simpa using g3
     clear er
     obtain⟨xc,xi,⟨yc,yh,yd,yds,yns,yn,yt,yk⟩⟩:=x
     replace hge:¬ qc≤xc:=hge
     replace hne:xc≠qc:=hne
     cases put with
     | true =>
      (repeat' first|(refine Na ?_ fun _ _=>?_;(focus lia);cbv)|(refine Ex.known O (LastR.enc O) rfl hx ?_ ?_;(focus lia);cbv)|(refine Back.to (k+1,true,out++[⟨xc,xi,⟨yc,yh,yd,yds,yns,yn,yt,yk⟩⟩]) [(6400,.loc 9344)] [] ?_ fun _ _=>?_;rotate_left;cbv)|(refine Nl fun _ _ hq=>?_;(try simp only [lenS] at hq);cbv)|(refine Nm fun _ _=>?_;cbv)|(refine Br.t ?_ ?_;(focus first|assumption|lia);cbv)|(refine Br.f ?_ ?_;(focus first|assumption|lia);cbv)|(refine Br.mk (fun _=>?_) (fun _=>?_)<;>cbv)|(refine Need.mk ?_ ?_;rotate_left;cbv)|(refine R0 ?_;cbv))
      all_goals try first
       | (exfalso;clear hx;lia)
       | (clear hx;lia)
       | (simp only [List.length_append,List.length_cons,List.length_nil];clear hx;lia)
       | (simp only [List.length_append,List.length_cons,List.length_nil] at hq ⊢;clear hx;lia)
       | exact⟨⟨by show k+1≤N;omega,by simp only [List.length_append,List.length_cons,List.length_nil];omega,g3⟩,by show N-(k+1)<N-k;omega⟩
      all_goals
       rename_i y ey
       subst ey
       (repeat' apply And.intro)<;>first
        | exact True.intro
        | exact WkR.refl _
        | rfl
        | (dsimp only;clear hx;lia)
        | (refine WkR.of_eq ?_;subst_vars;exact hsn)
        | (refine WkR.of_eq ?_;subst_vars;first|exact Lasts.snoc O _ _|(refine(Lasts.snoc O _ _).trans ?_;rw[Lasts.snoc O];rfl)|rfl)
        | trace_state
     | false =>
      (repeat' first|(refine Na ?_ fun _ _=>?_;(focus lia);cbv)|(refine Ex.known O (LastR.enc O) rfl hx ?_ ?_;(focus lia);cbv)|(refine Back.to (k+1,false,out++[⟨xc,xi,⟨yc,yh,yd,yds,yns,yn,yt,yk⟩⟩]) [(6400,.loc 9344)] [] ?_ fun _ _=>?_;rotate_left;cbv)|(refine Nl fun _ _ hq=>?_;(try simp only [lenS] at hq);cbv)|(refine Nm fun _ _=>?_;cbv)|(refine Br.t ?_ ?_;(focus first|assumption|lia);cbv)|(refine Br.f ?_ ?_;(focus first|assumption|lia);cbv)|(refine Br.mk (fun _=>?_) (fun _=>?_)<;>cbv)|(refine Need.mk ?_ ?_;rotate_left;cbv)|(refine R0 ?_;cbv))
      all_goals try first
       | (exfalso;clear hx;lia)
       | (clear hx;lia)
       | (simp only [List.length_append,List.length_cons,List.length_nil];clear hx;lia)
       | (simp only [List.length_append,List.length_cons,List.length_nil] at hq ⊢;clear hx;lia)
       | exact⟨⟨by show k+1≤N;omega,by simp only [List.length_append,List.length_cons,List.length_nil];omega,g3⟩,by show N-(k+1)<N-k;omega⟩
      all_goals
       rename_i y ey
       subst ey
       (repeat' apply And.intro)<;>first
        | exact True.intro
        | exact WkR.refl _
        | rfl
        | (dsimp only;clear hx;lia)
        | (refine WkR.of_eq ?_;subst_vars;exact hsn)
        | (refine WkR.of_eq ?_;subst_vars;first|exact Lasts.snoc O _ _|(refine(Lasts.snoc O _ _).trans ?_;rw[Lasts.snoc O];rfl)|rfl)
        | trace_state
   ·have hdr:l.drop k=[]:=List.drop_of_length_le (by omega)
    rw[hdr,rputL] at g3
    clear hdr
    cases put with
    | true =>
     have hWe:W=out:=by simpa using g3.symm
     subst hWe
     clear g3
     (repeat' first|(refine Na ?_ fun _ _=>?_;(focus lia);cbv)|(refine RetThen.mk [] [6400] ?_;cbv)|(refine Nl fun _ _ hq=>?_;(try simp only [lenS] at hq);cbv)|(refine Nm fun _ _=>?_;cbv)|(refine Br.t ?_ ?_;(focus first|assumption|lia);cbv)|(refine Br.f ?_ ?_;(focus first|assumption|lia);cbv)|(refine Br.mk (fun _=>?_) (fun _=>?_)<;>cbv)|(refine Need.mk ?_ ?_;rotate_left;cbv)|(refine R0 ?_;cbv))
     all_goals try(exfalso;lia)
     all_goals(repeat' apply And.intro)
     all_goals first|exact True.intro|exact WkR.refl _|rfl|(refine Nm fun _ e=>⟨.of_eq e.symm,?_⟩;cbv;(repeat' apply And.intro)<;>first|exact True.intro|exact WkR.refl _|rfl)|trace_state
    | false =>
     have hWe:W=out++[X]:=by simpa using g3.symm
     have hWr:O.o (Lasts.enc O) W=O.o (Lasts.enc O) out++[LastR.enc O X]:=by rw[hWe];exact Lasts.snoc O _ _
     rw[hXe] at hWr
     clear g3 hWe
     obtain⟨V,eV⟩:∃ V,V=O.o (Lasts.enc O) W:=⟨_,rfl⟩
     rw[← eV] at hWr
     (repeat' first|(refine Na ?_ fun _ _=>?_;(focus lia);cbv)|(refine RetThen.mk [] [10048] ?_;cbv)|(refine Nl fun _ _ hq=>?_;(try simp only [lenS] at hq);cbv)|(refine Nm fun _ _=>?_;cbv)|(refine Br.t ?_ ?_;(focus first|assumption|lia);cbv)|(refine Br.f ?_ ?_;(focus first|assumption|lia);cbv)|(refine Br.mk (fun _=>?_) (fun _=>?_)<;>cbv)|(refine Need.mk ?_ ?_;rotate_left;cbv)|(refine R0 ?_;cbv))
     all_goals try(exfalso;lia)
     all_goals try(simp only [List.length_cons,List.length_nil];lia)
     all_goals(repeat' apply And.intro)
     all_goals first|exact True.intro|exact WkR.refl _|rfl|(refine Nm fun _ e=>⟨.of_eq ?_,?_⟩;(focus(refine Eq.trans ?_ e.symm;subst_vars;first|exact hWr|exact eV.symm.trans hWr));cbv;(repeat' apply And.intro)<;>first|exact True.intro|exact WkR.refl _|rfl)|trace_state
  ·have hI3:=hI2 (by omega)
   clear hxp hIp hxid hpl hI2
   (repeat' first|(refine Na ?_ fun _ _=>?_;(focus lia);cbv)|(refine CallThen.mk _ _ (C.fn (k3)) ?_;cbv)|(refine CallThen.mk _ _ (C.fn (k4)) ?_;cbv)|(refine CallThen.mk _ _ (C.fn (k5)) ?_;cbv)|(refine CallThen.mk _ _ (C.fn (k6)) ?_;cbv)|(refine CallThen.mk _ _ (C.fn (k7)) ?_;cbv)|(refine Nl fun _ _ hq=>?_;(try simp only [lenS] at hq);cbv)|(refine Nm fun _ _=>?_;cbv)|(refine Br.t ?_ ?_;(focus first|assumption|lia);cbv)|(refine Br.f ?_ ?_;(focus first|assumption|lia);cbv)|(refine Br.mk (fun _=>?_) (fun _=>?_)<;>cbv)|(refine Need.mk ?_ ?_;rotate_left;cbv)|(refine R0 ?_;cbv))
   all_goals try(exfalso;clear k3 k4 k5 k6 k7 hR;lia)
   refine LoopThen.mk (C.loopAt (ι:=Nat×Bool×List LastR) [(8,10),(99,144)] (fun x=>[(8,.ref 6400),(9,.bool x.2.1),(10,.int .i64 x.1),(98,.top)]) (fun x=>[(6400,.arr 0 none 10 (O.o (Lasts.enc O) x.2.2)),(256,.box [.sl false 0 false 2 (O.o (Nms.enc O) D2),.int .i64 fb,.int .i64 ft,.sl false 0 false 4 (O.o (Chs.enc O) fc),.sl false 0 false 2 (O.o Subs.enc fs),.sl false 0 false 10 (O.o (Lasts.enc O) l)]),(320,.box [.int .i64 qc,.int .i64 qi,.int .i64 kind,.str key,.str to,.sl false 0 false 6 (O.o Doc.enc doc),.sl false 0 false 6 (O.o Doc.enc want),.bool has,.int .i64 n,.int .i64 most,.sl false 0 false 11 (O.o (Ops.enc O) ops),.sl false 0 false 2 (O.o (Nms.enc O) ods),.sl false 0 false 4 (O.o (Chs.enc O) ons)]),(384,.box [.nils,.int .i64 0,.int .i64 0,.nils,.nils,.nils]),(448,.box [.int .i64 0,.bool false,.nils,.nils,.nils,.int .i64 0,.int .i64 0,.nils]),(576,.box [.int .i64 ac,.bool ah,.sl false 0 false 6 (O.o Doc.enc ad),.sl false 0 false 2 (O.o (Nms.enc O) ads),.sl false 0 false 4 (O.o (Chs.enc O) ans),.int .i64 an,.int .i64 at',.sl false 0 false 2 (O.o Prs.enc ak)])])
    (fun x=>x.1≤N∧x.2.2.length≤2 * x.1∧x.2.2++rputL X x.2.1 (l.drop x.1)=W) (fun x=>N-x.1) (by decide +kernel) (Start.mk (z,false,nl) [] [] ⟨by show z≤N;omega,by show nl.length≤_;rw[enl];exact Nat.zero_le _,by show nl++rputL X false (l.drop z)=W;rw[enl,hz];exact hR⟩ ?_) ?_)
   ·cbv
    (repeat' apply And.intro)<;>first|exact True.intro|exact WkR.refl _|rfl|exact .of_eq hemp|exact hemp|lia|trace_state
   clear hR hemp enl hI0 k3 k4 k5 k6 k7 eX
   intro x g
   cbv
   obtain⟨k,put,out⟩:=x
   have g1:k≤N:=g.1
   have g2:out.length≤2 * k:=g.2.1
   have g3:out++rputL X put (l.drop k)=W:=g.2.2
   clear g
   have hol:=Lasts.len O out
   by_cases hk:k<l.length
   ·obtain⟨x,hx⟩:∃ x,l[k]?=some x:=⟨l[k],by simp [hk]⟩
    have hdr:l.drop k=x::l.drop (k+1):=by
     obtain⟨_,e⟩:=List.getElem?_eq_some_iff.1 hx
     rw[List.drop_eq_getElem_cons hk,e]
    rw[hdr,rputL,hXc] at g3
    obtain⟨r,er⟩:∃ r,r=l.drop (k+1):=⟨_,rfl⟩
    rw[← er] at g3
    clear hdr
    by_cases hge:qc≤x.client
    ·rw[show decide (qc≤x.client)=true by simpa using hge,Bool.or_true] at g3
     by_cases hne:x.client≠qc
     ·rw[if_pos hne] at g3
      cases put with
      | true =>
       rw[if_neg (by simp)] at g3
       have g3:(out++[x])++rputL X true (l.drop (k+1))=W:=by rw[← er];simpa using g3
       clear er
       have hX1:LastR.enc O x=LastR.enc O x:=rfl
       obtain⟨xc,xi,⟨yc,yh,yd,yds,yns,yn,yt,yk⟩⟩:=x
       replace hge:qc≤xc:=hge
       replace hne:xc≠qc:=hne
       (repeat' first|(refine Na ?_ fun _ _=>?_;(focus lia);cbv)|(refine Ex.known O (LastR.enc O) rfl hx ?_ ?_;(focus lia);cbv)|(refine Back.to (k+1,true,out++[⟨xc,xi,⟨yc,yh,yd,yds,yns,yn,yt,yk⟩⟩]) [(6400,.loc 9344)] [] ?_ fun _ _=>?_;rotate_left;cbv)|(refine Nl fun _ _ hq=>?_;(try simp only [lenS] at hq);cbv)|(refine Nm fun _ _=>?_;cbv)|(refine Br.t ?_ ?_;(focus first|assumption|lia);cbv)|(refine Br.f ?_ ?_;(focus first|assumption|lia);cbv)|(refine Br.mk (fun _=>?_) (fun _=>?_)<;>cbv)|(refine Need.mk ?_ ?_;rotate_left;cbv)|(refine R0 ?_;cbv))
       all_goals try first
        | (exfalso;clear hx;lia)
        | (clear hx;lia)
        | (simp only [List.length_append,List.length_cons,List.length_nil];clear hx;lia)
        | (simp only [List.length_append,List.length_cons,List.length_nil] at hq ⊢;clear hx;lia)
        | exact⟨⟨by show k+1≤N;omega,by simp only [List.length_append,List.length_cons,List.length_nil];omega,g3⟩,by show N-(k+1)<N-k;omega⟩
       all_goals
        rename_i y ey
        subst ey
        (repeat' apply And.intro)<;>first
         | exact True.intro
         | exact WkR.refl _
         | rfl
         | (dsimp only;clear hx;lia)
         | (refine WkR.of_eq ?_;subst_vars;exact hsn)
         | (refine WkR.of_eq ?_;subst_vars;first|exact Lasts.snoc O _ _|(refine(Lasts.snoc O _ _).trans ?_;rw[Lasts.snoc O];rfl)|rfl)
         | trace_state
      | false =>
       rw[if_pos ⟨rfl,hge⟩] at g3
       have g3:(out++[X]++[x])++rputL X true (l.drop (k+1))=W:=by rw[← er];simpa using g3
       have hsn:O.o (Lasts.enc O) (out++[X]++[x])=O.o (Lasts.enc O) out++[LastR.enc O X]++[LastR.enc O x]:=by rw[Lasts.snoc,Lasts.snoc]
       rw[hXe] at hsn
       clear er
       obtain⟨xc,xi,⟨yc,yh,yd,yds,yns,yn,yt,yk⟩⟩:=x
       replace hge:qc≤xc:=hge
       replace hne:xc≠qc:=hne
       (repeat' first|(refine Na ?_ fun _ _=>?_;(focus lia);cbv)|(refine Ex.known O (LastR.enc O) rfl hx ?_ ?_;(focus lia);cbv)|(refine Back.to (k+1,true,out++[X]++[⟨xc,xi,⟨yc,yh,yd,yds,yns,yn,yt,yk⟩⟩]) [(6400,.loc 9344)] [] ?_ fun _ _=>?_;rotate_left;cbv)|(refine Nl fun _ _ hq=>?_;(try simp only [lenS] at hq);cbv)|(refine Nm fun _ _=>?_;cbv)|(refine Br.t ?_ ?_;(focus first|assumption|lia);cbv)|(refine Br.f ?_ ?_;(focus first|assumption|lia);cbv)|(refine Br.mk (fun _=>?_) (fun _=>?_)<;>cbv)|(refine Need.mk ?_ ?_;rotate_left;cbv)|(refine R0 ?_;cbv))
       all_goals try first
        | (exfalso;clear hx;lia)
        | (clear hx;lia)
        | (simp only [List.length_append,List.length_cons,List.length_nil];clear hx;lia)
        | (simp only [List.length_append,List.length_cons,List.length_nil] at hq ⊢;clear hx;lia)
        | exact⟨⟨by show k+1≤N;omega,by simp only [List.length_append,List.length_cons,List.length_nil];omega,g3⟩,by show N-(k+1)<N-k;omega⟩
       all_goals
        rename_i y ey
        subst ey
        (repeat' apply And.intro)<;>first
         | exact True.intro
         | exact WkR.refl _
         | rfl
         | (dsimp only;clear hx;lia)
         | (refine WkR.of_eq ?_;subst_vars;exact hsn)
         | (refine WkR.of_eq ?_;subst_vars;first|exact Lasts.snoc O _ _|(refine(Lasts.snoc O _ _).trans ?_;rw[Lasts.snoc O];rfl)|rfl)
         | trace_state
     ·rw[if_neg hne] at g3
      cases put with
      | true =>
       rw[if_neg (by simp)] at g3
       have g3:out++rputL X true (l.drop (k+1))=W:=by rw[← er];simpa using g3
       clear er
       obtain⟨xc,xi,⟨yc,yh,yd,yds,yns,yn,yt,yk⟩⟩:=x
       replace hge:qc≤xc:=hge
       replace hne:¬ xc≠qc:=hne
       (repeat' first|(refine Na ?_ fun _ _=>?_;(focus lia);cbv)|(refine Ex.known O (LastR.enc O) rfl hx ?_ ?_;(focus lia);cbv)|(refine Back.to (k+1,true,out) [] [] ?_ fun _ _=>?_;rotate_left;cbv)|(refine Nl fun _ _ hq=>?_;(try simp only [lenS] at hq);cbv)|(refine Nm fun _ _=>?_;cbv)|(refine Br.t ?_ ?_;(focus first|assumption|lia);cbv)|(refine Br.f ?_ ?_;(focus first|assumption|lia);cbv)|(refine Br.mk (fun _=>?_) (fun _=>?_)<;>cbv)|(refine Need.mk ?_ ?_;rotate_left;cbv)|(refine R0 ?_;cbv))
       all_goals try first
        | (exfalso;clear hx;lia)
        | (clear hx;lia)
        | (simp only [List.length_append,List.length_cons,List.length_nil];clear hx;lia)
        | (simp only [List.length_append,List.length_cons,List.length_nil] at hq ⊢;clear hx;lia)
        | exact⟨⟨by show k+1≤N;omega,by simp only [List.length_append,List.length_cons,List.length_nil];omega,g3⟩,by show N-(k+1)<N-k;omega⟩
       all_goals
        rename_i y ey
        subst ey
        (repeat' apply And.intro)<;>first
         | exact True.intro
         | exact WkR.refl _
         | rfl
         | (dsimp only;clear hx;lia)
         | (refine WkR.of_eq ?_;subst_vars;exact hsn)
         | (refine WkR.of_eq ?_;subst_vars;first|exact Lasts.snoc O _ _|(refine(Lasts.snoc O _ _).trans ?_;rw[Lasts.snoc O];rfl)|rfl)
         | trace_state
      | false =>
       rw[if_pos ⟨rfl,hge⟩] at g3
       have g3:(out++[X])++rputL X true (l.drop (k+1))=W:=by rw[← er];simpa using g3
       have hsn:O.o (Lasts.enc O) (out++[X])=O.o (Lasts.enc O) out++[LastR.enc O X]:=Lasts.snoc O _ _
       rw[hXe] at hsn
       clear er
       obtain⟨xc,xi,⟨yc,yh,yd,yds,yns,yn,yt,yk⟩⟩:=x
       replace hge:qc≤xc:=hge
       replace hne:¬ xc≠qc:=hne
       (repeat' first|(refine Na ?_ fun _ _=>?_;(focus lia);cbv)|(refine Ex.known O (LastR.enc O) rfl hx ?_ ?_;(focus lia);cbv)|(refine Back.to (k+1,true,out++[X]) [(6400,.loc 8256)] [] ?_ fun _ _=>?_;rotate_left;cbv)|(refine Nl fun _ _ hq=>?_;(try simp only [lenS] at hq);cbv)|(refine Nm fun _ _=>?_;cbv)|(refine Br.t ?_ ?_;(focus first|assumption|lia);cbv)|(refine Br.f ?_ ?_;(focus first|assumption|lia);cbv)|(refine Br.mk (fun _=>?_) (fun _=>?_)<;>cbv)|(refine Need.mk ?_ ?_;rotate_left;cbv)|(refine R0 ?_;cbv))
       all_goals try first
        | (exfalso;clear hx;lia)
        | (clear hx;lia)
        | (simp only [List.length_append,List.length_cons,List.length_nil];clear hx;lia)
        | (simp only [List.length_append,List.length_cons,List.length_nil] at hq ⊢;clear hx;lia)
        | exact⟨⟨by show k+1≤N;omega,by simp only [List.length_append,List.length_cons,List.length_nil];omega,g3⟩,by show N-(k+1)<N-k;omega⟩
       all_goals
        rename_i y ey
        subst ey
        (repeat' apply And.intro)<;>first
         | exact True.intro
         | exact WkR.refl _
         | rfl
         | (dsimp only;clear hx;lia)
         | (refine WkR.of_eq ?_;subst_vars;exact hsn)
         | (refine WkR.of_eq ?_;subst_vars;first|exact Lasts.snoc O _ _|(refine(Lasts.snoc O _ _).trans ?_;rw[Lasts.snoc O];rfl)|rfl)
         | trace_state
    ·have hne:x.client≠qc:=by omega
     rw[show decide (qc≤x.client)=false by simpa using hge,Bool.or_false,if_pos hne,if_neg (fun k=>hge k.2)] at g3
     have g3:(out++[x])++rputL X put (l.drop (k+1))=W:=by rw[← er];simpa using g3
     clear er
     obtain⟨xc,xi,⟨yc,yh,yd,yds,yns,yn,yt,yk⟩⟩:=x
     replace hge:¬ qc≤xc:=hge
     replace hne:xc≠qc:=hne
     cases put with
     | true =>
      (repeat' first|(refine Na ?_ fun _ _=>?_;(focus lia);cbv)|(refine Ex.known O (LastR.enc O) rfl hx ?_ ?_;(focus lia);cbv)|(refine Back.to (k+1,true,out++[⟨xc,xi,⟨yc,yh,yd,yds,yns,yn,yt,yk⟩⟩]) [(6400,.loc 9344)] [] ?_ fun _ _=>?_;rotate_left;cbv)|(refine Nl fun _ _ hq=>?_;(try simp only [lenS] at hq);cbv)|(refine Nm fun _ _=>?_;cbv)|(refine Br.t ?_ ?_;(focus first|assumption|lia);cbv)|(refine Br.f ?_ ?_;(focus first|assumption|lia);cbv)|(refine Br.mk (fun _=>?_) (fun _=>?_)<;>cbv)|(refine Need.mk ?_ ?_;rotate_left;cbv)|(refine R0 ?_;cbv))
      all_goals try first
       | (exfalso;clear hx;lia)
       | (clear hx;lia)
       | (simp only [List.length_append,List.length_cons,List.length_nil];clear hx;lia)
       | (simp only [List.length_append,List.length_cons,List.length_nil] at hq ⊢;clear hx;lia)
       | exact⟨⟨by show k+1≤N;omega,by simp only [List.length_append,List.length_cons,List.length_nil];omega,g3⟩,by show N-(k+1)<N-k;omega⟩
      all_goals
       rename_i y ey
       subst ey
       (repeat' apply And.intro)<;>first
        | exact True.intro
        | exact WkR.refl _
        | rfl
        | (dsimp only;clear hx;lia)
        | (refine WkR.of_eq ?_;subst_vars;exact hsn)
        | (refine WkR.of_eq ?_;subst_vars;first|exact Lasts.snoc O _ _|(refine(Lasts.snoc O _ _).trans ?_;rw[Lasts.snoc O];rfl)|rfl)
        | trace_state
     | false =>
      (repeat' first|(refine Na ?_ fun _ _=>?_;(focus lia);cbv)|(refine Ex.known O (LastR.enc O) rfl hx ?_ ?_;(focus lia);cbv)|(refine Back.to (k+1,false,out++[⟨xc,xi,⟨yc,yh,yd,yds,yns,yn,yt,yk⟩⟩]) [(6400,.loc 9344)] [] ?_ fun _ _=>?_;rotate_left;cbv)|(refine Nl fun _ _ hq=>?_;(try simp only [lenS] at hq);cbv)|(refine Nm fun _ _=>?_;cbv)|(refine Br.t ?_ ?_;(focus first|assumption|lia);cbv)|(refine Br.f ?_ ?_;(focus first|assumption|lia);cbv)|(refine Br.mk (fun _=>?_) (fun _=>?_)<;>cbv)|(refine Need.mk ?_ ?_;rotate_left;cbv)|(refine R0 ?_;cbv))
      all_goals try first
       | (exfalso;clear hx;lia)
       | (clear hx;lia)
       | (simp only [List.length_append,List.length_cons,List.length_nil];clear hx;lia)
       | (simp only [List.length_append,List.length_cons,List.length_nil] at hq ⊢;clear hx;lia)
       | exact⟨⟨by show k+1≤N;omega,by simp only [List.length_append,List.length_cons,List.length_nil];omega,g3⟩,by show N-(k+1)<N-k;omega⟩
      all_goals
       rename_i y ey
       subst ey
       (repeat' apply And.intro)<;>first
        | exact True.intro
        | exact WkR.refl _
        | rfl
        | (dsimp only;clear hx;lia)
        | (refine WkR.of_eq ?_;subst_vars;exact hsn)
        | (refine WkR.of_eq ?_;subst_vars;first|exact Lasts.snoc O _ _|(refine(Lasts.snoc O _ _).trans ?_;rw[Lasts.snoc O];rfl)|rfl)
        | trace_state
   ·have hdr:l.drop k=[]:=List.drop_of_length_le (by omega)
    rw[hdr,rputL] at g3
    clear hdr
    cases put with
    | true =>
     have hWe:W=out:=by simpa using g3.symm
     subst hWe
     clear g3
     (repeat' first|(refine Na ?_ fun _ _=>?_;(focus lia);cbv)|(refine RetThen.mk [] [6400] ?_;cbv)|(refine Nl fun _ _ hq=>?_;(try simp only [lenS] at hq);cbv)|(refine Nm fun _ _=>?_;cbv)|(refine Br.t ?_ ?_;(focus first|assumption|lia);cbv)|(refine Br.f ?_ ?_;(focus first|assumption|lia);cbv)|(refine Br.mk (fun _=>?_) (fun _=>?_)<;>cbv)|(refine Need.mk ?_ ?_;rotate_left;cbv)|(refine R0 ?_;cbv))
     all_goals try(exfalso;lia)
     all_goals(repeat' apply And.intro)
     all_goals first|exact True.intro|exact WkR.refl _|rfl|(refine Nm fun _ e=>⟨.of_eq e.symm,?_⟩;cbv;(repeat' apply And.intro)<;>first|exact True.intro|exact WkR.refl _|rfl)|trace_state
    | false =>
     have hWe:W=out++[X]:=by simpa using g3.symm
     have hWr:O.o (Lasts.enc O) W=O.o (Lasts.enc O) out++[LastR.enc O X]:=by rw[hWe];exact Lasts.snoc O _ _
     rw[hXe] at hWr
     clear g3 hWe
     obtain⟨V,eV⟩:∃ V,V=O.o (Lasts.enc O) W:=⟨_,rfl⟩
     rw[← eV] at hWr
     (repeat' first|(refine Na ?_ fun _ _=>?_;(focus lia);cbv)|(refine RetThen.mk [] [10048] ?_;cbv)|(refine Nl fun _ _ hq=>?_;(try simp only [lenS] at hq);cbv)|(refine Nm fun _ _=>?_;cbv)|(refine Br.t ?_ ?_;(focus first|assumption|lia);cbv)|(refine Br.f ?_ ?_;(focus first|assumption|lia);cbv)|(refine Br.mk (fun _=>?_) (fun _=>?_)<;>cbv)|(refine Need.mk ?_ ?_;rotate_left;cbv)|(refine R0 ?_;cbv))
     all_goals try(exfalso;lia)
     all_goals try(simp only [List.length_cons,List.length_nil];lia)
     all_goals(repeat' apply And.intro)
     all_goals first|exact True.intro|exact WkR.refl _|rfl|(refine Nm fun _ e=>⟨.of_eq ?_,?_⟩;(focus(refine Eq.trans ?_ e.symm;subst_vars;first|exact hWr|exact eV.symm.trans hWr));cbv;(repeat' apply And.intro)<;>first|exact True.intro|exact WkR.refl _|rfl)|trace_state
 by_cases hI0:0≤I
 ·obtain⟨p,x,h1,h2,h3⟩:=hI1 hI0
  exact main p x fun _=>⟨h1,h2,h3⟩
 ·exact main 0 X fun h=>absurd h hI0
theorem DepFew.inn {d:Depot} {m:Nat} (h:DepFew d m) (hm:m≤1000):DepIn d:=⟨h.may,Nat.le_trans h.chs hm,fun x hx=>(h.last x hx).inn.mono (by decide)⟩
theorem DepFew.sz {d:Depot} {m:Nat} (h:DepFew d m) (hm:m≤1000):DepSz d 1099511627776:=by
 obtain⟨m1,m2,m3⟩:=mayDp_iff.1 h.may
 have i:=mayF_in m2 (Nat.le_trans h.chs hm)
 have k:=mayD_iff.1 m1
 have hl:=(lastsOk_iff.1 m3).1
 have:=h.chs
 refine⟨⟨by omega,fun n hn=>?_⟩,⟨by omega,fun c hc=>?_⟩,by omega,⟨by omega,fun x hx=>(h.last x hx).inn.mono (by decide)⟩⟩
 ·have:=may_len (k.2.1 n hn).2;omega
 ·have:=i.2.2.1 c hc;omega
theorem turnR_parts (d:Depot) (o:Opn) (hd:mayD d.docs=true) (hf:mayF d.feed=true):∃ D2 F2 A2,turnR d o=(⟨D2,F2,d.last⟩,A2):=by
 obtain⟨_,_,h3⟩:=turnR_may o hd hf
 exact⟨(turnR d o).1.docs,(turnR d o).1.feed,(turnR d o).2,by rw[← h3]⟩
theorem dapply_ok (O:Opq) (d:Depot) (q:Reqn) {m:Nat} (h:DepFew d m) (hm:m≤1000) (hs:SmallO q.op 1099511627) (D':Depot) (A':Answer) (hR:depotR d q=(D',A')) :
  Fn prog 29 [.agg (d.enc O),.agg (q.en O)] [] [.agg (D'.enc O),.agg (A'.enc O),.int .i64 0] []:=by
 obtain⟨h1,h2,h3⟩:=mayDp_iff.1 h.may
 have hi:=h.inn hm
 obtain⟨D2,F2,A2,hT⟩:=turnR_parts d q.op h1 h2
 have hA:AnsIn A2 1099511627:=by have:=few_turn (d:=d) q.op h1;rw[hT] at this;exact this.inn.mono (by decide)
 unfold depotR at hR
 cases ht:turnsB q.op.kind with
 | false =>
  rw[if_pos ht] at hR
  cases hR
  have k:=dapply_read O d q hi hs ht
  rwa [show O.o (readsA d) q.op=readsA d q.op by rw[O.h]] at k
 | true =>
  rw[if_neg (by simp [ht])] at hR
  by_cases hc:q.client=0
  ·rw[if_pos hc,hT] at hR
   cases hR
   exact dapply_zero O d q hi hs ht hc D2 F2 _ hT
  ·rw[if_neg hc] at hR
   cases hN:toldL d.last q.client q.id with
   | some a =>
    rw[hN] at hR
    cases hR
    exact dapply_told O d q hi ht hc _ hN
   | none =>
    rw[hN,hT] at hR
    cases hR
    cases hg:getL d.last q.client with
    | true=>exact dapply_there O d q hi hs ht hc hN hg D2 F2 _ hT hA
    | false=>exact dapply_new O d q hi hs ht hc hN hg D2 F2 _ hT hA
theorem rdapply_ok (O:Opq) (d:Depot) (q:Reqn) {m:Nat} (h:DepFew d m) (hm:m≤1000) (hs:SmallO q.op 1099511627) (hp:PathsO q.op) (D':Depot) (A':Answer) (hR:depotR d q=(D',A')) :
  Fn prog 40 [.agg (d.enc O),.agg (q.en O)] [] [.agg (D'.enc O),.agg (A'.enc O)] []:=by
 obtain⟨h1,h2,h3⟩:=mayDp_iff.1 h.may
 have hi:=h.inn hm
 obtain⟨D2,F2,A2,hT⟩:=turnR_parts d q.op h1 h2
 unfold depotR at hR
 cases ht:turnsB q.op.kind with
 | false =>
  rw[if_pos ht] at hR
  cases hR
  have k:=rdapply_read O d q hi hs hp ht
  rwa [show O.o (readsA d) q.op=readsA d q.op by rw[O.h]] at k
 | true =>
  rw[if_neg (by simp [ht])] at hR
  by_cases hc:q.client=0
  ·rw[if_pos hc,hT] at hR
   cases hR
   exact rdapply_zero O d q hi hs hp ht hc D2 F2 _ hT
  ·rw[if_neg hc] at hR
   cases hN:toldL d.last q.client q.id with
   | some a =>
    rw[hN] at hR
    cases hR
    exact rdapply_told O d q hi ht hc _ hN
   | none =>
    rw[hN,hT] at hR
    cases hR
    exact rdapply_put O d q hi hs hp ht hc hN D2 F2 _ hT
theorem small_put (m:Nat):SmallO req0.op m:=⟨by simp [req0,putO,Opn.doc],by simp [req0,putO,Opn.want],by simp [req0,putO,Opn.list],by simp [req0,putO,Opn.list]⟩
theorem awake14_fn (O:Opq):Fn prog 32 [] [] [.bool true] []:=by
 have k1:=dapply_ok O zeroD req0 zeroD_few (by decide) (small_put _) dep1 (answerN 1) dep_first
 have k2:=dapply_ok O dep1 req0 dep1_few (by decide) (small_put _) dep1 (answerN 1) dep_again
 have e1:O.o (Nms.enc O) []=[]:=by rw[O.h];rfl
 have e2:O.o (Chs.enc O) []=[]:=by rw[O.h];rfl
 have e3:O.o (Ops.enc O) []=[]:=by rw[O.h];rfl
 have e4:O.o Doc.enc []=[]:=by rw[O.h];rfl
 have e5:O.o Subs.enc []=[]:=by rw[O.h];rfl
 have e6:O.o (Lasts.enc O) []=[]:=by rw[O.h];rfl
 have ez:zeroD.enc O=[.sl false 0 false 2 [],.int .i64 0,.int .i64 0,.sl false 0 false 4 [],.sl false 0 false 2 [],.sl false 0 false 10 []]:=by
  rw[show zeroD.enc O=[.sl false 0 false 2 (O.o (Nms.enc O) []),.int .i64 0,.int .i64 0,.sl false 0 false 4 (O.o (Chs.enc O) []),.sl false 0 false 2 (O.o Subs.enc []),.sl false 0 false 10 (O.o (Lasts.enc O) [])] from rfl,e1,e2,e5,e6]
 have eq:req0.en O=[.int .i64 5,.int .i64 1,.int .i64 1,.str tx,.str ByteArray.empty,.sl false 0 false 6 [],.sl false 0 false 6 [],.bool false,.int .i64 0,.int .i64 0,.sl false 0 false 11 [],.sl false 0 false 2 [],.sl false 0 false 4 []]:=by
  rw[show req0.en O=[.int .i64 5,.int .i64 1,.int .i64 1,.str tx,.str ByteArray.empty,.sl false 0 false 6 (O.o Doc.enc []),.sl false 0 false 6 (O.o Doc.enc []),.bool false,.int .i64 0,.int .i64 0,.sl false 0 false 11 (O.o (Ops.enc O) []),.sl false 0 false 2 (O.o (Nms.enc O) []),.sl false 0 false 4 (O.o (Chs.enc O) [])] from rfl,e1,e2,e3,e4]
 rw[ez,eq] at k1
 rw[eq] at k2
 have hl:=Nms.len O [⟨tx,[]⟩]
 refine go (fn:=Proofs.Tryz.f32) (n:=52) (rv:=[ResultVar.tmp 0]) rfl (by decide) rfl (by decide +kernel) rfl rfl (by simp) fun F L C=>?_
 cbv
 (repeat' first|(refine Na ?_ fun _ _=>?_;(focus lia);cbv)|(refine CallThen.mk _ _ (C.fn (Fn.wkA (k1) ?_)) ?_;(focus((repeat' apply WkAL.cons)<;>first|exact WkAL.nil|exact WkA.refl _|exact WkA.lend rfl|exact WkA.bor rfl (WkR.refl _)|exact WkA.wk (Wk.nil _ _)|exact WkA.wk (Wk.sl' rfl rfl (WkR.refl _))|(refine WkA.agg' ?_;((repeat' apply WkAL.cons)<;>first|exact WkAL.nil|exact WkA.refl _|exact WkA.lend rfl|exact WkA.bor rfl (WkR.refl _)|exact WkA.wk (Wk.nil _ _)|exact WkA.wk (Wk.sl' rfl rfl (WkR.refl _))|(refine WkA.agg' ?_;((repeat' apply WkAL.cons)<;>first|exact WkAL.nil|exact WkA.refl _|exact WkA.lend rfl|exact WkA.bor rfl (WkR.refl _)|exact WkA.wk (Wk.nil _ _)|exact WkA.wk (Wk.sl' rfl rfl (WkR.refl _))))))));cbv)|(refine CallThen.mk _ _ (C.fn (Fn.wkA (k2) ?_)) ?_;(focus((repeat' apply WkAL.cons)<;>first|exact WkAL.nil|exact WkA.refl _|exact WkA.lend rfl|exact WkA.bor rfl (WkR.refl _)|exact WkA.wk (Wk.nil _ _)|exact WkA.wk (Wk.sl' rfl rfl (WkR.refl _))|(refine WkA.agg' ?_;((repeat' apply WkAL.cons)<;>first|exact WkAL.nil|exact WkA.refl _|exact WkA.lend rfl|exact WkA.bor rfl (WkR.refl _)|exact WkA.wk (Wk.nil _ _)|exact WkA.wk (Wk.sl' rfl rfl (WkR.refl _))|(refine WkA.agg' ?_;((repeat' apply WkAL.cons)<;>first|exact WkAL.nil|exact WkA.refl _|exact WkA.lend rfl|exact WkA.bor rfl (WkR.refl _)|exact WkA.wk (Wk.nil _ _)|exact WkA.wk (Wk.sl' rfl rfl (WkR.refl _))))))));cbv)|(refine Nl fun _ _ hq=>?_;(try simp only [lenS] at hq);cbv)|(refine Nm fun _ _=>?_;cbv)|(refine Br.t ?_ ?_;(focus first|assumption|lia);cbv)|(refine Br.f ?_ ?_;(focus first|assumption|lia);cbv)|(refine Br.mk (fun _=>?_) (fun _=>?_)<;>cbv)|(refine Need.mk ?_ ?_;rotate_left;cbv)|(refine R0 ?_;cbv))
 all_goals first
  | exact⟨rfl,trivial⟩
  | (exfalso;rename_i n e h;exact h (by rw[e];exact congrArg Int.ofNat hl))
  | trace_state
structure DepArg (d:Depot):Prop where
 docs:d.docs.length≤9223372036854775807∧∀ n∈d.docs,pathsOk n.doc
 chs:d.feed.changes.length≤9223372036854775807∧∀ c∈d.feed.changes,inC c∧pathsOk c.doc
 last:∀ x∈d.last,x.answer.docs.length≤9223372036854775807∧x.answer.news.length≤9223372036854775807
theorem lightF_iff {f:Feed}:lightF f=true ↔ (f.changes.length≤60∧∀ c∈f.changes,c.doc.length≤20)∧f.subs.length≤20:=by
 simp only [lightF,decide_eq_true_eq,lightC_iff]
theorem lightA1_few {a:Answer} (h:lightA1 a):FewA a:=by
 obtain⟨h1,h2,h3,h4⟩:=h
 exact⟨h3,smallD_iff.1 h1,lightC_iff.1 h2,h4⟩
theorem light_few {d:Depot} (h:lightDp d=true) (hm:mayDp d=true):DepFew d 60:=by
 obtain⟨h1,h2,h3,h4⟩:=lightDp_iff.1 h
 exact⟨hm,(lightF_iff.1 h3).1.1,fun x hx=>by
  obtain⟨j,hj,rfl⟩:=List.getElem_of_mem hx
  exact lightA1_few (h1 j _ (List.getElem?_eq_getElem hj))⟩
theorem FewA.same (O:Opq) {a:Answer} (h:FewA a):Fn prog 30 [.agg (a.enc O),.agg (a.enc O)] [] [.bool true] []:=by
 have k:=ransw_fn O a a (by have:=h.doc;omega) ⟨by have:=h.docs.1;omega,fun c hc=>by have:=h.docs.2 c hc;omega⟩ ⟨by have:=h.news.1;omega,fun c hc=>by have:=h.news.2 c hc;omega⟩ (by have:=h.keys;omega)
 rw[show O.o sameAns a a=true by rw[O.h,sameAns];simp] at k
 exact k
theorem DepSz.same (O:Opq) {d:Depot} (h:DepSz d 1099511627776):Fn prog 31 [.agg (d.enc O),.agg (d.enc O)] [] [.bool true] []:=by
 have k:=rsame14_fn O d d h
 rw[show O.o sameDp d d=true by rw[O.h];exact sameDp_iff.2 rfl] at k
 exact k
theorem zeroD_same (O:Opq):Fn prog 31 [.agg (zeroD.enc O),.agg [.nils,.int .i64 0,.int .i64 0,.nils,.nils,.nils]] [] [.bool true] []:=by
 have k:=DepSz.same O (zeroD_few.sz (by decide))
 have e1:O.o (Nms.enc O) []=[]:=by rw[O.h];rfl
 have e2:O.o (Chs.enc O) []=[]:=by rw[O.h];rfl
 have e5:O.o Subs.enc []=[]:=by rw[O.h];rfl
 have e6:O.o (Lasts.enc O) []=[]:=by rw[O.h];rfl
 refine k.wkA (.cons (.refl _) (.cons ?_ .nil))
 show WkA (.agg [.sl false 0 false 2 (O.o (Nms.enc O) []),.int .i64 0,.int .i64 0,.sl false 0 false 4 (O.o (Chs.enc O) []),.sl false 0 false 2 (O.o Subs.enc []),.sl false 0 false 10 (O.o (Lasts.enc O) [])]) _
 rw[e1,e2,e5,e6]
 exact .agg' (.cons (.wk (.nil _ _)) (.cons (.refl _) (.cons (.refl _) (.cons (.wk (.nil _ _)) (.cons (.wk (.nil _ _)) (.cons (.wk (.nil _ _)) .nil))))))
theorem DepFew.rmay (O:Opq) {d:Depot} {m:Nat} (h:DepFew d m) (hm:m≤1000):Fn prog 37 [.agg (d.enc O)] [] [.bool true] []:=by
 obtain⟨m1,m2,m3⟩:=mayDp_iff.1 h.may
 have i:=mayF_in m2 (Nat.le_trans h.chs hm)
 have k:=mayD_iff.1 m1
 have hl:=(lastsOk_iff.1 m3).1
 have:=h.chs
 have r:=rmay14_fn O d ⟨by omega,fun n hn=>⟨by have:=may_len (k.2.1 n hn).2;omega,may_paths (k.2.1 n hn).2⟩⟩ ⟨by omega,by omega,fun c hc=>by
  have:=i.2.2.1 c hc
  obtain⟨j,hj,rfl⟩:=List.getElem_of_mem hc
  exact⟨by omega,may_paths ((mayF_iff.1 m2).2.1 j _ hj (List.getElem?_eq_getElem hj)).2.2.1⟩⟩ (by omega)
 rw[show O.o mayDp d=true by rw[O.h];exact h.may] at r
 exact r
set_option maxHeartbeats 4000000 in
theorem depotApplies_fn (O:Opq) (d:Depot) (q:Reqn) (ha:DepArg d) (hp:PathsO q.op):Fn prog 9 [.agg (d.enc O),.agg (q.en O)] [] [.bool true] []:=by
 have g1:=llight14_fn O d ha.docs.1 ha.chs.1 ha.last
 have g2:=llight_fn O q.op
 have aw:=awake14_fn O
 by_cases hg:lightDp d=true∧lightO q.op=true
 ·rw[show O.o lightDp d=true by rw[O.h];exact hg.1] at g1
  rw[show O.o lightO q.op=true by rw[O.h];exact hg.2] at g2
  have hL:=lightDp_iff.1 hg.1
  have hsd:=smallD_iff.1 hL.2.1
  have hlf:=lightF_iff.1 hL.2.2.1
  have hll:=hL.2.2.2
  have b1:d.docs.length≤1099511627∧∀ n∈d.docs,n.doc.length≤1099511627:=⟨by omega,fun n hn=>by have:=hsd.2 n hn;omega⟩
  have b2:d.feed.changes.length≤1099511627∧d.feed.subs.length≤1099511627∧∀ c∈d.feed.changes,inC c∧c.doc.length≤1099511627776:=⟨by omega,by omega,fun c hc=>⟨(ha.chs.2 c hc).1,by have:=hlf.1.2 c hc;omega⟩⟩
  have k2:=dcheck_fn O d b1 b2 (by omega)
  have k3:=rmay14_fn O d ⟨b1.1,fun n hn=>⟨b1.2 n hn,ha.docs.2 n hn⟩⟩ ⟨b2.1,b2.2.1,fun c hc=>⟨(b2.2.2 c hc).2,(ha.chs.2 c hc).2⟩⟩ (by omega)
  have t1:=dturns_fn O q.op
  have t2:=rturns_fn O q.op.kind
  obtain⟨T,eT⟩:∃ T,T=O.o turnsB q.op.kind:=⟨_,rfl⟩
  rw[← eT] at t1 t2
  clear eT
  by_cases hm:mayDp d=true
  ·rw[show O.o depotErr d=0 by rw[O.h];exact depotErr_zero.2 hm] at k2
   rw[show O.o mayDp d=true by rw[O.h];exact hm] at k3
   have hF:=light_few hg.1 hm
   have hso:=light_small hg.2 1099511627 (by decide)
   obtain⟨D',A',hR⟩:∃ D' A',depotR d q=(D',A'):=⟨_,_,rfl⟩
   have hF':=depotR_few q hF
   rw[hR] at hF'
   have k1:=dapply_ok O d q hF (by decide) hso D' A' hR
   have k4:=rdapply_ok O d q hF (by decide) hso hp D' A' hR
   have k5:=DepSz.same O (hF'.1.sz (by decide))
   have k6:=FewA.same O hF'.2
   have k7:=dsame_fn O d D' (hF.sz (by decide))
   have k8:=rsame14_fn O d D' (hF.sz (by decide))
   have k9:=hF'.1.rmay O (by decide)
   obtain⟨S,eS⟩:∃ T,T=O.o sameDp d D':=⟨_,rfl⟩
   rw[← eS] at k7 k8
   clear eS hF hF' hso hR hm b1 b2 hsd hlf hll hL hg ha hp
   obtain⟨docs,⟨base,total,chs,subs⟩,l⟩:=d
   obtain⟨qc,qi,⟨kind,key,to,doc,want,has,n,most,ops,ods,ons⟩⟩:=q
   obtain⟨docs',⟨base',total',chs',subs'⟩,l'⟩:=D'
   obtain⟨ac,ah,ad,ads,ans,an,at',ak⟩:=A'
   cases T<;>cases S
   all_goals
    refine go (fn:=Proofs.Tryz.f9) (n:=93) (rv:=[ResultVar.tmp 4]) rfl (by decide) rfl (by decide +kernel) rfl rfl (by simp) fun F L C=>?_
    cbv
    (repeat' first|(refine Na ?_ fun _ _=>?_;(focus lia);cbv)|(refine CallThen.mk _ _ (C.fn (g1)) ?_;cbv)|(refine CallThen.mk _ _ (C.fn (g2)) ?_;cbv)|(refine CallThen.mk _ _ (C.fn (k1)) ?_;cbv)|(refine CallThen.mk _ _ (C.fn (k2)) ?_;cbv)|(refine CallThen.mk _ _ (C.fn (k3)) ?_;cbv)|(refine CallThen.mk _ _ (C.fn (t1)) ?_;cbv)|(refine CallThen.mk _ _ (C.fn (t2)) ?_;cbv)|(refine CallThen.mk _ _ (C.fn (k4)) ?_;cbv)|(refine CallThen.mk _ _ (C.fn (k5)) ?_;cbv)|(refine CallThen.mk _ _ (C.fn (k6)) ?_;cbv)|(refine CallThen.mk _ _ (C.fn (k7)) ?_;cbv)|(refine CallThen.mk _ _ (C.fn (k8)) ?_;cbv)|(refine CallThen.mk _ _ (C.fn (k9)) ?_;cbv)|(refine CallThen.mk _ _ (C.fn (aw)) ?_;cbv)|(refine Nl fun _ _ hq=>?_;(try simp only [lenS] at hq);cbv)|(refine Nm fun _ _=>?_;cbv)|(refine Br.t ?_ ?_;(focus first|assumption|lia);cbv)|(refine Br.f ?_ ?_;(focus first|assumption|lia);cbv)|(refine Br.mk (fun _=>?_) (fun _=>?_)<;>cbv)|(refine Need.mk ?_ ?_;rotate_left;cbv)|(refine R0 ?_;cbv))
    all_goals first
     | exact⟨rfl,trivial⟩
     | trace_state
  ·have hm:mayDp d=false:=by simpa using hm
   rw[show O.o depotErr d=1 by rw[O.h,depotErr,hm];rfl] at k2
   rw[show O.o mayDp d=false by rw[O.h];exact hm] at k3
   have k1:=dapply_bad O d q hm b1 b2 (by omega)
   have k5:=zeroD_same O
   have k6:=ransw0_fn O
   clear hm b1 b2 hsd hlf hll hL hg ha hp
   obtain⟨docs,⟨base,total,chs,subs⟩,l⟩:=d
   obtain⟨qc,qi,⟨kind,key,to,doc,want,has,n,most,ops,ods,ons⟩⟩:=q
   cases T
   all_goals
    refine go (fn:=Proofs.Tryz.f9) (n:=93) (rv:=[ResultVar.tmp 4]) rfl (by decide) rfl (by decide +kernel) rfl rfl (by simp) fun F L C=>?_
    cbv
    (repeat' first|(refine Na ?_ fun _ _=>?_;(focus lia);cbv)|(refine CallThen.mk _ _ (C.fn (g1)) ?_;cbv)|(refine CallThen.mk _ _ (C.fn (g2)) ?_;cbv)|(refine CallThen.mk _ _ (C.fn (k1)) ?_;cbv)|(refine CallThen.mk _ _ (C.fn (k2)) ?_;cbv)|(refine CallThen.mk _ _ (C.fn (k3)) ?_;cbv)|(refine CallThen.mk _ _ (C.fn (t1)) ?_;cbv)|(refine CallThen.mk _ _ (C.fn (t2)) ?_;cbv)|(refine CallThen.mk _ _ (C.fn (k5)) ?_;cbv)|(refine CallThen.mk _ _ (C.fn (k6)) ?_;cbv)|(refine CallThen.mk _ _ (C.fn (aw)) ?_;cbv)|(refine Nl fun _ _ hq=>?_;(try simp only [lenS] at hq);cbv)|(refine Nm fun _ _=>?_;cbv)|(refine Br.t ?_ ?_;(focus first|assumption|lia);cbv)|(refine Br.f ?_ ?_;(focus first|assumption|lia);cbv)|(refine Br.mk (fun _=>?_) (fun _=>?_)<;>cbv)|(refine Need.mk ?_ ?_;rotate_left;cbv)|(refine R0 ?_;cbv))
    all_goals first
     | exact⟨rfl,trivial⟩
     | trace_state
 ·obtain⟨s1,e1⟩:∃ s,s=O.o lightDp d:=⟨_,rfl⟩
  obtain⟨s2,e2⟩:∃ s,s=O.o lightO q.op:=⟨_,rfl⟩
  have hg:¬ (s1=true∧s2=true):=by rw[e1,e2,O.h,O.h];exact hg
  rw[← e1] at g1
  rw[← e2] at g2
  clear e1 e2 hp ha
  obtain⟨docs,⟨base,total,chs,subs⟩,l⟩:=d
  obtain⟨qc,qi,⟨kind,key,to,doc,want,has,n,most,ops,ods,ons⟩⟩:=q
  cases s1<;>cases s2
  all_goals try(exfalso;exact hg ⟨rfl,rfl⟩)
  all_goals
   refine go (fn:=Proofs.Tryz.f9) (n:=93) (rv:=[ResultVar.tmp 4]) rfl (by decide) rfl (by decide +kernel) rfl rfl (by simp) fun F L C=>?_
   cbv
   (repeat' first|(refine Na ?_ fun _ _=>?_;(focus lia);cbv)|(refine CallThen.mk _ _ (C.fn (g1)) ?_;cbv)|(refine CallThen.mk _ _ (C.fn (g2)) ?_;cbv)|(refine CallThen.mk _ _ (C.fn (aw)) ?_;cbv)|(refine Nl fun _ _ hq=>?_;(try simp only [lenS] at hq);cbv)|(refine Nm fun _ _=>?_;cbv)|(refine Br.t ?_ ?_;(focus first|assumption|lia);cbv)|(refine Br.f ?_ ?_;(focus first|assumption|lia);cbv)|(refine Br.mk (fun _=>?_) (fun _=>?_)<;>cbv)|(refine Need.mk ?_ ?_;rotate_left;cbv)|(refine R0 ?_;cbv))
   all_goals first
    | exact⟨rfl,trivial⟩
    | trace_state
end Go.Sym
