/- Who asked last, sought by halving. -/
import Derived.Test.YtfkigahipkndgaaGreatDoorK25
import Derived.Test.YtfkigahipkndgaaGreatDoorK26
set_option linter.all false
set_option linter.unusedVariables false
set_option linter.unusedSimpArgs false
namespace Go.Sym
open Go Go.Proofs.Tryz
set_option maxRecDepth 100000
theorem dcmp_fn (O:Opq) (x:LastR) (c v:Int) (hv:v=IntKind.i64.wrap (x.client-c)):Fn prog 77 [.agg (x.enc O),.int .i64 c] [] [.int .i64 v] []:=by
 obtain⟨xc,xi,⟨ac,ah,ad,ads,ans,an,at',ak⟩⟩:=x
 replace hv:v=IntKind.i64.wrap (xc-c):=hv
 refine go (fn:=Proofs.Tryz.f77) (n:=7) (rv:=[ResultVar.tmp 4]) rfl (by decide) rfl (by decide +kernel) rfl rfl (by simp) fun F L C=>?_
 cbv
 (repeat' first|(refine Nm fun n hn=>?_;obtain rfl:n=v:=hn.trans hv.symm;cbv)|(refine Na ?_ fun _ _=>?_;(focus lia);cbv)|(refine Nl fun _ _ hq=>?_;(try simp only [lenS] at hq);cbv)|(refine Nm fun _ _=>?_;cbv)|(refine Br.t ?_ ?_;(focus first|assumption|lia);cbv)|(refine Br.f ?_ ?_;(focus first|assumption|lia);cbv)|(refine Br.mk (fun _=>?_) (fun _=>?_)<;>cbv)|(refine Need.mk ?_ ?_;rotate_left;cbv)|(refine R0 ?_;cbv))
 all_goals first
  | exact⟨rfl,trivial⟩
  | trace_state
set_option maxHeartbeats 2000000 in
theorem bsearchL_fn (O:Opq) (l:List LastR) (c:Int) (hl:l.length≤1099511627776):Fn prog 76 [.sl true 0 false 10 (O.o (Lasts.enc O) l),.int .i64 c,.fn 77 [] []] [] [.int .i64 (O.o seekZ l c),.bool (O.o seekB l c)] []:=by
 have hlen:=Lasts.len O l
 have hZ:O.o seekZ l c=(O.o seekI l c:Nat):=by rw[O.h,O.h];rfl
 have hB:O.o seekB l c=decide (O.o seekI l c<l.length∧cmpL l c (O.o seekI l c)=0):=by rw[O.h,O.h];rfl
 have hT:bsI (cmpL l c) 0 l.length=O.o seekI l c:=by rw[O.h];rfl
 obtain⟨T,eT⟩:∃ T,T=O.o seekI l c:=⟨_,rfl⟩
 obtain⟨Z,eZ⟩:∃ T,T=O.o seekZ l c:=⟨_,rfl⟩
 obtain⟨B,eB⟩:∃ T,T=O.o seekB l c:=⟨_,rfl⟩
 rw[← eT] at hZ hB hT
 rw[← eZ] at hZ ⊢
 rw[← eB] at hB ⊢
 clear eT eZ eB
 obtain⟨N,hN⟩:∃ N:Nat,N=l.length:=⟨_,rfl⟩
 obtain⟨z,hz⟩:∃ z:Nat,z=0:=⟨_,rfl⟩
 refine go (fn:=Proofs.Tryz.f76) (n:=46) (rv:=[ResultVar.tmp 6,ResultVar.tmp 7]) rfl (by decide) rfl (by decide +kernel) rfl rfl (by simp) fun F L C=>?_
 cbv
 (repeat' first|(refine Na ?_ fun _ _=>?_;(focus lia);cbv)|(refine Nl fun _ _ hq=>?_;(try simp only [lenS] at hq);cbv)|(refine Nm fun _ _=>?_;cbv)|(refine Br.t ?_ ?_;(focus first|assumption|lia);cbv)|(refine Br.f ?_ ?_;(focus first|assumption|lia);cbv)|(refine Br.mk (fun _=>?_) (fun _=>?_)<;>cbv)|(refine Need.mk ?_ ?_;rotate_left;cbv)|(refine R0 ?_;cbv))
 refine LoopThen.mk (C.loopAt (ι:=Nat×Nat) [(9,11),(15,34)] (fun x=>[(9,.int .i64 x.1),(10,.int .i64 x.2)]) (fun _=>[])
  (fun x=>x.1≤x.2∧x.2≤l.length∧bsI (cmpL l c) x.1 x.2=T) (fun x=>x.2-x.1) (by decide +kernel) (Start.mk (z,N) [] [] ⟨by show z≤N;omega,by show N≤l.length;omega,by show bsI _ z N=T;rw[hz,hN];exact hT⟩ (by cbv;(repeat' apply And.intro)<;>first|exact True.intro|exact WkR.refl _|rfl|lia)) ?_)
 intro x g
 cbv
 obtain⟨i,j⟩:=x
 have h1:i≤j:=g.1
 have h2:j≤l.length:=g.2.1
 have h3:bsI (cmpL l c) i j=T:=g.2.2
 clear g hT
 by_cases hij:i<j
 ·obtain⟨h,hh⟩:∃ h,h=(i+j) / 2:=⟨_,rfl⟩
  rw[bsI,if_pos hij,← hh] at h3
  have hh1:i≤h∧h<j:=by omega
  have hh2:2 * h≤i+j∧i+j≤2 * h+1:=by omega
  obtain⟨x,hx⟩:∃ x,l[h]?=some x:=⟨l[h],by simp⟩
  obtain⟨v,hv⟩:∃ v,v=IntKind.i64.wrap (x.client-c):=⟨_,rfl⟩
  have hc:=dcmp_fn O x c v hv
  rw[cmpL_at hx,← hv] at h3
  have h4:v<0→bsI (cmpL l c) (h+1) j=T:=fun e=>by rw[if_pos e] at h3;exact h3
  have h5:¬ v<0→bsI (cmpL l c) i h=T:=fun e=>by rw[if_neg e] at h3;exact h3
  clear h3 hh hB hv
  obtain⟨xc,xi,⟨ac,ah,ad,ads,ans,an,at',ak⟩⟩:=x
  by_cases hv0:v<0
  ·have h4:=h4 hv0
   clear h5
   (repeat' first|(refine Na ?_ fun _ _=>?_;(focus lia);cbv)|(refine Named.u64 ?_ fun _ _=>?_;(focus lia);cbv)|(refine Named.half fun _ _=>?_;cbv)|(refine Ex.known O (LastR.enc O) rfl hx ?_ ?_;(focus lia);cbv)|(refine CallThen.mk _ _ (C.fn (hc)) ?_;cbv)|(refine Back.to (h+1,j) [] [] ?_ fun _ _=>?_;rotate_left;cbv)|(refine Nl fun _ _ hq=>?_;(try simp only [lenS] at hq);cbv)|(refine Nm fun _ _=>?_;cbv)|(refine Br.t ?_ ?_;(focus first|assumption|lia);cbv)|(refine Br.f ?_ ?_;(focus first|assumption|lia);cbv)|(refine Br.mk (fun _=>?_) (fun _=>?_)<;>cbv)|(refine Need.mk ?_ ?_;rotate_left;cbv)|(refine R0 ?_;cbv))
   all_goals try first
    | (clear hx hc h4;lia)
    | exact⟨⟨by show h+1≤j;omega,h2,h4⟩,by show j-(h+1)<j-i;omega⟩
   all_goals first
    | (rename_i y ey;subst ey;(repeat' apply And.intro)<;>first|exact True.intro|exact WkR.refl _|rfl|(dsimp only;clear hx hc h4;lia)|trace_state)
    | trace_state
  ·have h5:=h5 hv0
   clear h4
   (repeat' first|(refine Na ?_ fun _ _=>?_;(focus lia);cbv)|(refine Named.u64 ?_ fun _ _=>?_;(focus lia);cbv)|(refine Named.half fun _ _=>?_;cbv)|(refine Ex.known O (LastR.enc O) rfl hx ?_ ?_;(focus lia);cbv)|(refine CallThen.mk _ _ (C.fn (hc)) ?_;cbv)|(refine Back.to (i,h) [] [] ?_ fun _ _=>?_;rotate_left;cbv)|(refine Nl fun _ _ hq=>?_;(try simp only [lenS] at hq);cbv)|(refine Nm fun _ _=>?_;cbv)|(refine Br.t ?_ ?_;(focus first|assumption|lia);cbv)|(refine Br.f ?_ ?_;(focus first|assumption|lia);cbv)|(refine Br.mk (fun _=>?_) (fun _=>?_)<;>cbv)|(refine Need.mk ?_ ?_;rotate_left;cbv)|(refine R0 ?_;cbv))
   all_goals try first
    | (clear hx hc h5;lia)
    | exact⟨⟨by show i≤h;omega,by show h≤l.length;omega,h5⟩,by show h-i<j-i;omega⟩
   all_goals first
    | (rename_i y ey;subst ey;(repeat' apply And.intro)<;>first|exact True.intro|exact WkR.refl _|rfl|(dsimp only;clear hx hc h5;lia)|trace_state)
    | trace_state
 ·rw[bsI,if_neg hij] at h3
  subst h3
  by_cases hi:i<l.length
  ·obtain⟨x,hx⟩:∃ x,l[i]?=some x:=⟨l[i],by simp [hi]⟩
   obtain⟨v,hv⟩:∃ v,v=IntKind.i64.wrap (x.client-c):=⟨_,rfl⟩
   have hc:=dcmp_fn O x c v hv
   rw[cmpL_at hx,← hv] at hB
   have hb1:v=0→B=true:=fun e=>by rw[hB];simp [hi,e]
   have hb2:v≠0→B=false:=fun e=>by rw[hB];simp [e]
   clear hB hv
   obtain⟨xc,xi,⟨ac,ah,ad,ads,ans,an,at',ak⟩⟩:=x
   (repeat' first|(refine Na ?_ fun _ _=>?_;(focus lia);cbv)|(refine Ex.known O (LastR.enc O) rfl hx ?_ ?_;(focus lia);cbv)|(refine CallThen.mk _ _ (C.fn (hc)) ?_;cbv)|(refine Nl fun _ _ hq=>?_;(try simp only [lenS] at hq);cbv)|(refine Nm fun _ _=>?_;cbv)|(refine Br.t ?_ ?_;(focus first|assumption|lia);cbv)|(refine Br.f ?_ ?_;(focus first|assumption|lia);cbv)|(refine Br.mk (fun _=>?_) (fun _=>?_)<;>cbv)|(refine Need.mk ?_ ?_;rotate_left;cbv)|(refine R0 ?_;cbv))
   all_goals first
    | exact⟨hZ.symm,hb1 (by assumption),trivial⟩
    | exact⟨hZ.symm,hb2 (by assumption),trivial⟩
    | exact⟨hZ,hb1 (by assumption),trivial⟩
    | exact⟨hZ,hb2 (by assumption),trivial⟩
    | (exfalso;clear hx hc hb1 hb2;lia)
    | trace_state
  ·have hb:B=false:=by rw[hB];simp [hi]
   clear hB
   (repeat' first|(refine Na ?_ fun _ _=>?_;(focus lia);cbv)|(refine Nl fun _ _ hq=>?_;(try simp only [lenS] at hq);cbv)|(refine Nm fun _ _=>?_;cbv)|(refine Br.t ?_ ?_;(focus first|assumption|lia);cbv)|(refine Br.f ?_ ?_;(focus first|assumption|lia);cbv)|(refine Br.mk (fun _=>?_) (fun _=>?_)<;>cbv)|(refine Need.mk ?_ ?_;rotate_left;cbv)|(refine R0 ?_;cbv))
   all_goals first
    | exact⟨hZ.symm,hb,trivial⟩
    | exact⟨hZ,hb,trivial⟩
    | (exfalso;lia)
    | trace_state
structure DepIn (d:Depot):Prop where
 may:mayDp d=true
 chs:d.feed.changes.length≤1000
 last:∀ x∈d.last,AnsIn x.answer 1099511627
structure DepGood (O:Opq) (d:Depot):Prop where
 docs:mayD d.docs=true
 feed:mayF d.feed=true
 last:lastsOk d.last=true
 chk:Fn prog 38 [.agg (d.enc O)] [] [.int .i64 0] []
 own:Fn prog 73 [.agg (d.enc O)] [] [.agg [.sl false 0 false 2 (O.o (Nms.enc O) d.docs),.int .i64 d.feed.base,.int .i64 d.feed.total,.sl false 0 false 4 (O.o (Chs.enc O) d.feed.changes),.sl false 0 false 2 (O.o Subs.enc d.feed.subs),.ref 0]] [.arr 0 none 10 (O.o (Lasts.enc O) d.last)]
theorem depGood (O:Opq) {d:Depot} (h:DepIn d):DepGood O d:=by
 obtain⟨m1,m2,m3⟩:=mayDp_iff.1 h.may
 obtain⟨i1,i2,i3,i4,i5,i6⟩:=mayF_in m2 h.chs
 have m:=mayD_iff.1 m1
 have hl:=(lastsOk_iff.1 m3).1
 have hd:∀ n∈d.docs,n.doc.length≤1099511627:=fun n hn=>by have:=may_len (m.2.1 n hn).2;omega
 have k1:=dcheck_fn O d ⟨by omega,hd⟩ ⟨i1.1,by omega,fun c hc=>⟨(i1.2.2 c hc).1,by have:=(i1.2.2 c hc).2;omega⟩⟩ (by omega)
 rw[show O.o depotErr d=0 by rw[O.h];exact depotErr_zero.2 h.may] at k1
 exact⟨m1,m2,m3,k1,down_fn O d ⟨by omega,hd⟩ ⟨i1.1,fun c hc=>(i1.2.2 c hc).2⟩ (by omega) ⟨by omega,h.last⟩⟩
set_option maxHeartbeats 4000000 in
theorem dapply_bad (O:Opq) (d:Depot) (q:Reqn) (hm:mayDp d=false) (h1:d.docs.length≤1099511627∧∀ n∈d.docs,n.doc.length≤1099511627) (h2:d.feed.changes.length≤1099511627∧d.feed.subs.length≤1099511627∧∀ c∈d.feed.changes,inC c∧c.doc.length≤1099511627776) (h3:d.last.length≤9223372036854775807) :
  Fn prog 29 [.agg (d.enc O),.agg (q.en O)] [] [.agg (zeroD.enc O),.agg (ans0.enc O),.int .i64 1] []:=by
 have k1:=dcheck_fn O d h1 h2 h3
 rw[show O.o depotErr d=1 by rw[O.h,depotErr,hm];rfl] at k1
 have e1:O.o (Nms.enc O) []=[]:=by rw[O.h];rfl
 have e2:O.o (Chs.enc O) []=[]:=by rw[O.h];rfl
 have e3:O.o Prs.enc []=[]:=by rw[O.h];rfl
 have e4:O.o Doc.enc []=[]:=by rw[O.h];rfl
 have e5:O.o Subs.enc []=[]:=by rw[O.h];rfl
 have e6:O.o (Lasts.enc O) []=[]:=by rw[O.h];rfl
 clear h1 h2 h3 hm
 obtain⟨docs,⟨base,total,chs,subs⟩,l⟩:=d
 obtain⟨qc,qi,⟨kind,key,to,doc,want,has,n,most,ops,ods,ons⟩⟩:=q
 refine go (fn:=Proofs.Tryz.f29) (n:=143) (rv:=[ResultVar.cell 4 65,ResultVar.cell 5 37,ResultVar.tmp 6]) rfl (by decide) rfl (by decide +kernel) rfl rfl (by simp) fun F L C=>?_
 cbv
 (repeat' first|(refine Na ?_ fun _ _=>?_;(focus lia);cbv)|(refine CallThen.mk _ _ (C.fn (k1)) ?_;cbv)|(refine Nl fun _ _ hq=>?_;(try simp only [lenS] at hq);cbv)|(refine Nm fun _ _=>?_;cbv)|(refine Br.t ?_ ?_;(focus first|assumption|lia);cbv)|(refine Br.f ?_ ?_;(focus first|assumption|lia);cbv)|(refine Br.mk (fun _=>?_) (fun _=>?_)<;>cbv)|(refine Need.mk ?_ ?_;rotate_left;cbv)|(refine R0 ?_;cbv))
 all_goals(repeat' apply And.intro)
 all_goals first|exact True.intro|exact WkR.refl _|rfl|exact e1|exact e2|exact e3|exact e4|exact e5|exact e6|trace_state
set_option maxHeartbeats 4000000 in
theorem dapply_read (O:Opq) (d:Depot) (q:Reqn) (h:DepIn d) (hs:SmallO q.op 1099511627) (ht:turnsB q.op.kind=false) :
  Fn prog 29 [.agg (d.enc O),.agg (q.en O)] [] [.agg (d.enc O),.agg ((O.o (readsA d) q.op).enc O),.int .i64 0] []:=by
 have G:=depGood O h
 have k1:=G.chk
 have k2:=G.own
 have k3:=dturns_fn O q.op
 rw[show O.o turnsB q.op.kind=false by rw[O.h];exact ht] at k3
 have k4:=dreads_fn O d q.op G.docs G.feed h.chs hs
 obtain⟨A,eA⟩:∃ A,A=O.o (readsA d) q.op:=⟨_,rfl⟩
 rw[← eA] at k4 ⊢
 clear eA G h hs ht
 obtain⟨docs,⟨base,total,chs,subs⟩,l⟩:=d
 obtain⟨qc,qi,⟨kind,key,to,doc,want,has,n,most,ops,ods,ons⟩⟩:=q
 obtain⟨ac,ah,ad,ads,ans,an,at',ak⟩:=A
 refine goM (modeOf 75 [.own]) (fn:=Proofs.Tryz.f29) (n:=143) (rv:=[ResultVar.cell 4 65,ResultVar.cell 5 37,ResultVar.tmp 6]) rfl (by decide) rfl (by decide +kernel) rfl rfl (by simp) fun F L C=>?_
 cbv
 (repeat' first|(refine Na ?_ fun _ _=>?_;(focus lia);cbv)|(refine CallThen.mk _ _ (C.fn (k1)) ?_;cbv)|(refine CallThen.mk _ _ (C.fn (k2)) ?_;cbv)|(refine CallThen.mk _ _ (C.fn (k3)) ?_;cbv)|(refine CallThen.mk _ _ (C.fn (k4)) ?_;cbv)|(refine RetThen.mk [] [1472] ?_;cbv)|(refine Nl fun _ _ hq=>?_;(try simp only [lenS] at hq);cbv)|(refine Nm fun _ _=>?_;cbv)|(refine Br.t ?_ ?_;(focus first|assumption|lia);cbv)|(refine Br.f ?_ ?_;(focus first|assumption|lia);cbv)|(refine Br.mk (fun _=>?_) (fun _=>?_)<;>cbv)|(refine Need.mk ?_ ?_;rotate_left;cbv)|(refine R0 ?_;cbv))
 all_goals(repeat' apply And.intro)
 all_goals first
  | exact True.intro
  | exact WkR.refl _
  | rfl
  | (refine Nm fun _ e=>⟨.of_eq e.symm,?_⟩;cbv;(repeat' apply And.intro)<;>first|exact True.intro|exact WkR.refl _|rfl)
  | trace_state
set_option maxHeartbeats 4000000 in
theorem dapply_zero (O:Opq) (d:Depot) (q:Reqn) (h:DepIn d) (hs:SmallO q.op 1099511627) (ht:turnsB q.op.kind=true) (hc:q.client=0) (D2:List Ndoc) (F2:Feed) (A2:Answer) (hT:turnR d q.op=(⟨D2,F2,d.last⟩,A2)) :
  Fn prog 29 [.agg (d.enc O),.agg (q.en O)] [] [.agg (Depot.enc O ⟨D2,F2,d.last⟩),.agg (A2.enc O),.int .i64 0] []:=by
 have G:=depGood O h
 have k1:=G.chk
 have k2:=G.own
 have k3:=dturns_fn O q.op
 rw[show O.o turnsB q.op.kind=true by rw[O.h];exact ht] at k3
 have k4:=dturn_fn O d q.op G.docs G.feed h.chs hs D2 F2 A2 hT
 clear G h hs ht hT
 obtain⟨docs,⟨base,total,chs,subs⟩,l⟩:=d
 obtain⟨qc,qi,⟨kind,key,to,doc,want,has,n,most,ops,ods,ons⟩⟩:=q
 obtain⟨ac,ah,ad,ads,ans,an,at',ak⟩:=A2
 obtain⟨fb,ft,fc,fs⟩:=F2
 replace hc:qc=0:=hc
 subst hc
 refine goM (modeOf 75 [.own]) (fn:=Proofs.Tryz.f29) (n:=143) (rv:=[ResultVar.cell 4 65,ResultVar.cell 5 37,ResultVar.tmp 6]) rfl (by decide) rfl (by decide +kernel) rfl rfl (by simp) fun F L C=>?_
 cbv
 (repeat' first|(refine Na ?_ fun _ _=>?_;(focus lia);cbv)|(refine CallThen.mk _ _ (C.fn (k1)) ?_;cbv)|(refine CallThen.mk _ _ (C.fn (k2)) ?_;cbv)|(refine CallThen.mk _ _ (C.fn (k3)) ?_;cbv)|(refine CallThen.mk _ _ (C.fn (k4)) ?_;cbv)|(refine RetThen.mk [] [1472] ?_;cbv)|(refine Nl fun _ _ hq=>?_;(try simp only [lenS] at hq);cbv)|(refine Nm fun _ _=>?_;cbv)|(refine Br.t ?_ ?_;(focus first|assumption|lia);cbv)|(refine Br.f ?_ ?_;(focus first|assumption|lia);cbv)|(refine Br.mk (fun _=>?_) (fun _=>?_)<;>cbv)|(refine Need.mk ?_ ?_;rotate_left;cbv)|(refine R0 ?_;cbv))
 all_goals(repeat' apply And.intro)
 all_goals first
  | exact True.intro
  | exact WkR.refl _
  | rfl
  | (refine Nm fun _ e=>⟨.of_eq e.symm,?_⟩;cbv;(repeat' apply And.intro)<;>first|exact True.intro|exact WkR.refl _|rfl)
  | trace_state
set_option maxHeartbeats 8000000 in
theorem dapply_new (O:Opq) (d:Depot) (q:Reqn) (h:DepIn d) (hso:SmallO q.op 1099511627) (ht:turnsB q.op.kind=true) (hc:q.client≠0) (hN:toldL d.last q.client q.id=none) (hg:getL d.last q.client=false) (D2:List Ndoc) (F2:Feed) (A2:Answer) (hT:turnR d q.op=(⟨D2,F2,d.last⟩,A2)) (hA:AnsIn A2 1099511627) :
  Fn prog 29 [.agg (d.enc O),.agg (q.en O)] [] [.agg (Depot.enc O ⟨D2,F2,putL d.last ⟨q.client,q.id,A2⟩⟩),.agg (A2.enc O),.int .i64 0] []:=by
 have G:=depGood O h
 have k1:=G.chk
 have k2:=G.own
 have k3:=dturns_fn O q.op
 rw[show O.o turnsB q.op.kind=true by rw[O.h];exact ht] at k3
 have hl8:=(lastsOk_iff.1 G.last).1
 have k4:=bsearchL_fn O d.last q.client (by omega)
 have k5:=dcount_fn O q.client
 have k6:=dcount_fn O q.id
 have k7:=dturn_fn O d q.op G.docs G.feed h.chs hso D2 F2 A2 hT
 have k8:=danswer_fn O A2 hA
 have hlen:=Lasts.len O d.last
 have hs:=(lastsOk_iff.1 G.last).2.2
 unfold toldL at hN
 have hcc:countB q.client=true∧countB q.id=true:=by
  by_cases hcc:countB q.client=true∧countB q.id=true
  ·exact hcc
  ·rw[if_pos hcc] at hN;cases hN
 rw[if_neg (fun n=>n hcc)] at hN
 obtain⟨s1,s2⟩:=seek_ok G.last hcc.1
 rw[show O.o seekZ d.last q.client=(posL d.last q.client:Int) by rw[O.h,seekZ,s1],show O.o seekB d.last q.client=getL d.last q.client by rw[O.h,s2],hg] at k4
 rw[show O.o countB q.client=true by rw[O.h];exact hcc.1] at k5
 rw[show O.o countB q.id=true by rw[O.h];exact hcc.2] at k6
 have hn8:d.last.length≠8:=fun e=>by rw[if_neg (by simp [hg]),if_neg (by simp [hg]),if_pos ⟨hg,e⟩] at hN;cases hN
 obtain⟨p,ep⟩:∃ p,p=posL d.last q.client:=⟨_,rfl⟩
 have hple:p≤d.last.length:=by rw[ep];exact posL_le _ _
 have hput:Lasts.enc O (putL d.last ⟨q.client,q.id,A2⟩)=(Lasts.enc O d.last).take p++[LastR.enc O ⟨q.client,q.id,A2⟩]++(Lasts.enc O d.last).drop p:=by
  rw[putL_ins hg,← ep,Lasts.enc,Lasts.enc,insK];simp [List.map_take,List.map_drop]
 rw[← ep] at k4
 obtain⟨W,eW⟩:∃ W,W=O.o (Lasts.enc O) (putL d.last ⟨q.client,q.id,A2⟩):=⟨_,rfl⟩
 have hW:W=(O.o (Lasts.enc O) d.last).take p++[LastR.enc O ⟨q.client,q.id,A2⟩]++(O.o (Lasts.enc O) d.last).drop p:=by rw[eW,O.h,hput]
 have k9:=insertL_fn O d.last p [.int .i64 q.client,.int .i64 0,.int .i64 0,.bool false,.nils,.nils,.nils,.int .i64 0,.int .i64 0,.nils] _ rfl (by omega) (by omega) (by omega)
 have hins:O.o insRow (O.o (Lasts.enc O) d.last) (p:Int) [.int .i64 q.client,.int .i64 0,.int .i64 0,.bool false,.nils,.nils,.nils,.int .i64 0,.int .i64 0,.nils]=(O.o (Lasts.enc O) d.last).take p++[[.int .i64 q.client,.int .i64 0,.int .i64 0,.bool false,.nils,.nils,.nils,.int .i64 0,.int .i64 0,.nils]]++(O.o (Lasts.enc O) d.last).drop p:=by simp only [O.h];rfl
 obtain⟨V,eV⟩:∃ V,V=O.o insRow (O.o (Lasts.enc O) d.last) (p:Int) [.int .i64 q.client,.int .i64 0,.int .i64 0,.bool false,.nils,.nils,.nils,.int .i64 0,.int .i64 0,.nils]:=⟨_,rfl⟩
 rw[← eV] at k9 hins
 have hpl:p≤(O.o (Lasts.enc O) d.last).length:=by rw[hlen];exact hple
 have hVl:V.length=(O.o (Lasts.enc O) d.last).length+1:=by rw[hins];simp;omega
 have goal:Fn prog 29 [.agg (d.enc O),.agg (q.en O)] [] [.agg [.sl false 0 false 2 (O.o (Nms.enc O) D2),.int .i64 F2.base,.int .i64 F2.total,.sl false 0 false 4 (O.o (Chs.enc O) F2.changes),.sl false 0 false 2 (O.o Subs.enc F2.subs),.sl false 0 false 10 W],.agg (A2.enc O),.int .i64 0] []:=by
  clear eW hput ep s1 s2 hcc hN hT hA G h hso ht hg hs hl8 eV hple
  obtain⟨docs,⟨base,total,chs,subs⟩,l⟩:=d
  obtain⟨qc,qi,⟨kind,key,to,doc,want,has,n,most,ops,ods,ons⟩⟩:=q
  obtain⟨ac,ah,ad,ads,ans,an,at',ak⟩:=A2
  obtain⟨fb,ft,fc,fs⟩:=F2
  replace hc:qc≠0:=hc
  replace hn8:l.length≠8:=hn8
  replace hlen:(O.o (Lasts.enc O) l).length=l.length:=hlen
  replace hpl:p≤(O.o (Lasts.enc O) l).length:=hpl
  replace hVl:V.length=(O.o (Lasts.enc O) l).length+1:=hVl
  replace hins:V=(O.o (Lasts.enc O) l).take p++[[.int .i64 qc,.int .i64 0,.int .i64 0,.bool false,.nils,.nils,.nils,.int .i64 0,.int .i64 0,.nils]]++(O.o (Lasts.enc O) l).drop p:=hins
  replace hW:W=(O.o (Lasts.enc O) l).take p++[LastR.enc O ⟨qc,qi,⟨ac,ah,ad,ads,ans,an,at',ak⟩⟩]++(O.o (Lasts.enc O) l).drop p:=hW
  have hpt:((O.o (Lasts.enc O) l).take p).length=p:=by rw[List.length_take];omega
  have hpV:p<V.length:=by omega
  have hset:∀ r,V.set p r=(O.o (Lasts.enc O) l).take p++[r]++(O.o (Lasts.enc O) l).drop p:=fun r=>by
   rw[hins,List.append_assoc,List.append_assoc,List.set_append,if_neg (by omega),hpt,Nat.sub_self];rfl
  have hget:V[p]?=some [.int .i64 qc,.int .i64 0,.int .i64 0,.bool false,.nils,.nils,.nils,.int .i64 0,.int .i64 0,.nils]:=by
   rw[hins,List.append_assoc,List.getElem?_append_right (by omega),hpt];simp
  clear hins
  refine goM (modeOf 75 [.own]) (fn:=Proofs.Tryz.f29) (n:=143) (rv:=[ResultVar.cell 4 65,ResultVar.cell 5 37,ResultVar.tmp 6]) rfl (by decide) rfl (by decide +kernel) rfl rfl (by simp) fun F L C=>?_
  cbv
  (repeat' first|(refine Na ?_ fun _ _=>?_;(focus lia);cbv)|(refine CallThen.mk _ _ (C.fn (k1)) ?_;cbv)|(refine CallThen.mk _ _ (C.fn (k2)) ?_;cbv)|(refine CallThen.mk _ _ (C.fn (k3)) ?_;cbv)|(refine CallThen.mk _ _ (C.fn (k4)) ?_;cbv)|(refine CallThen.mk _ _ (C.fn (k5)) ?_;cbv)|(refine CallThen.mk _ _ (C.fn (k6)) ?_;cbv)|(refine CallThen.mk _ _ (C.fn (k7)) ?_;cbv)|(refine CallThen.mk _ _ (C.fn (k8)) ?_;cbv)|(refine CallThen.mk _ _ (C.fn (k9)) ?_;cbv)|(refine Nl fun _ _ hq=>?_;(try simp only [lenS] at hq);cbv)|(refine Nm fun _ _=>?_;cbv)|(refine Br.t ?_ ?_;(focus first|assumption|lia);cbv)|(refine Br.f ?_ ?_;(focus first|assumption|lia);cbv)|(refine Br.mk (fun _=>?_) (fun _=>?_)<;>cbv)|(refine Need.mk ?_ ?_;rotate_left;cbv)|(refine R0 ?_;cbv))
  all_goals try first
   | (exfalso;clear k1 k2 k3 k4 k5 k6 k7 k8 k9 hW hset hget;lia)
  all_goals try(refine⟨Int.natCast_nonneg _,?_⟩;show(p:Int)<(V.length:Int);clear hW hset hget;omega)
  rename_i n0 e0 n1 e1
  refine Ex.at _ ⟨Int.natCast_nonneg _,(show V[n1]?=some [.int .i64 qc,.int .i64 0,.int .i64 0,.bool false,.nils,.nils,.nils,.int .i64 0,.int .i64 0,.nils] by rw[e1];exact hget)⟩ ?_
  cbv
  (repeat' first|(refine Na ?_ fun _ _=>?_;(focus lia);cbv)|(fail)|(refine Nl fun _ _ hq=>?_;(try simp only [lenS] at hq);cbv)|(refine Nm fun _ _=>?_;cbv)|(refine Br.t ?_ ?_;(focus first|assumption|lia);cbv)|(refine Br.f ?_ ?_;(focus first|assumption|lia);cbv)|(refine Br.mk (fun _=>?_) (fun _=>?_)<;>cbv)|(refine Need.mk ?_ ?_;rotate_left;cbv)|(refine R0 ?_;cbv))
  all_goals try(refine⟨Int.natCast_nonneg _,?_⟩;rename_i hq;refine Int.ofNat_lt.2 ?_;rw[hq];exact hpV)
  rename_i R eR n4 e4
  have hr:R[(Int.ofNat n4).toNat]?=some [.int .i64 qc,.int .i64 qi,.int .i64 0,.bool false,.nils,.nils,.nils,.int .i64 0,.int .i64 0,.nils]:=by
   show R[n4]?=_
   rw[e4,eR,e1,natTo,List.getElem?_set_self hpV]
   rfl
  refine Ex.at _ ⟨Int.natCast_nonneg _,hr⟩ ?_
  cbv
  (repeat' first|(refine Na ?_ fun _ _=>?_;(focus lia);cbv)|(refine RetThen.mk [] [8256] ?_;cbv)|(refine Nl fun _ _ hq=>?_;(try simp only [lenS] at hq);cbv)|(refine Nm fun _ _=>?_;cbv)|(refine Br.t ?_ ?_;(focus first|assumption|lia);cbv)|(refine Br.f ?_ ?_;(focus first|assumption|lia);cbv)|(refine Br.mk (fun _=>?_) (fun _=>?_)<;>cbv)|(refine Need.mk ?_ ?_;rotate_left;cbv)|(refine R0 ?_;cbv))
  rename_i S eS
  refine⟨.refl _,.refl _,.refl _,Named.mk fun rs er=>⟨.of_eq ?_,?_⟩⟩
  ·rw[er,eS,eR,e1,e4,natTo,List.set_set,hset,hW];rfl
  ·cbv
   (repeat' apply And.intro)<;>first|exact True.intro|exact WkR.refl _|rfl|trace_state
 rw[eW] at goal
 exact goal
set_option maxHeartbeats 8000000 in
theorem dapply_told (O:Opq) (d:Depot) (q:Reqn) (h:DepIn d) (ht:turnsB q.op.kind=true) (hc:q.client≠0) (a:Answer) (hT:toldL d.last q.client q.id=some a) :
  Fn prog 29 [.agg (d.enc O),.agg (q.en O)] [] [.agg (d.enc O),.agg (a.enc O),.int .i64 0] []:=by
 have G:=depGood O h
 have k1:=G.chk
 have k2:=G.own
 have k3:=dturns_fn O q.op
 rw[show O.o turnsB q.op.kind=true by rw[O.h];exact ht] at k3
 have hl8:=(lastsOk_iff.1 G.last).1
 have k4:=bsearchL_fn O d.last q.client (by omega)
 have k5:=dcount_fn O q.client
 have k6:=dcount_fn O q.id
 have e1:O.o (Nms.enc O) []=[]:=by rw[O.h];rfl
 have e2:O.o (Chs.enc O) []=[]:=by rw[O.h];rfl
 have e3:O.o Prs.enc []=[]:=by rw[O.h];rfl
 have e4:O.o Doc.enc []=[]:=by rw[O.h];rfl
 have hlen:=Lasts.len O d.last
 have hs:=(lastsOk_iff.1 G.last).2.2
 unfold toldL at hT
 by_cases hcc:countB q.client=true∧countB q.id=true
 ·rw[if_neg (fun n=>n hcc)] at hT
  obtain⟨s1,s2⟩:=seek_ok G.last hcc.1
  rw[show O.o seekZ d.last q.client=(posL d.last q.client:Int) by rw[O.h,seekZ,s1],show O.o seekB d.last q.client=getL d.last q.client by rw[O.h,s2]] at k4
  rw[show O.o countB q.client=true by rw[O.h];exact hcc.1] at k5
  rw[show O.o countB q.id=true by rw[O.h];exact hcc.2] at k6
  cases hg:getL d.last q.client with
  | true =>
   obtain⟨x,hx,he⟩:=posL_there hs hg
   rw[hg,lastA_at hx] at hT
   rw[hg] at k4
   have k7:=danswer_fn O x.answer (h.last x (List.mem_of_getElem? hx))
   obtain⟨p,ep⟩:∃ p,p=posL d.last q.client:=⟨_,rfl⟩
   rw[← ep] at hx k4
   have hpl:(p:Int)<(O.o (Lasts.enc O) d.last).length:=by have:=(List.getElem?_eq_some_iff.1 hx).1;rw[hlen];omega
   by_cases hi:x.id=q.id
   ·rw[if_pos ⟨rfl,hi⟩] at hT
    cases hT
    clear G h ht hs s1 s2 hcc hg ep he
    obtain⟨docs,⟨base,total,chs,subs⟩,l⟩:=d
    obtain⟨qc,qi,⟨kind,key,to,doc,want,has,n,most,ops,ods,ons⟩⟩:=q
    obtain⟨xc,xi,⟨ac,ah,ad,ads,ans,an,at',ak⟩⟩:=x
    replace hi:xi=qi:=hi
    replace hc:qc≠0:=hc
    refine goM (modeOf 75 [.own]) (fn:=Proofs.Tryz.f29) (n:=143) (rv:=[ResultVar.cell 4 65,ResultVar.cell 5 37,ResultVar.tmp 6]) rfl (by decide) rfl (by decide +kernel) rfl rfl (by simp) fun F L C=>?_
    cbv
    (repeat' first|(refine Na ?_ fun _ _=>?_;(focus lia);cbv)|(refine CallThen.mk _ _ (C.fn (k1)) ?_;cbv)|(refine CallThen.mk _ _ (C.fn (k2)) ?_;cbv)|(refine CallThen.mk _ _ (C.fn (k3)) ?_;cbv)|(refine CallThen.mk _ _ (C.fn (k4)) ?_;cbv)|(refine CallThen.mk _ _ (C.fn (k5)) ?_;cbv)|(refine CallThen.mk _ _ (C.fn (k6)) ?_;cbv)|(refine Ex.known O (LastR.enc O) rfl hx ?_ ?_;(focus lia);cbv)|(refine CallThen.mk _ _ (C.fn (k7)) ?_;cbv)|(refine RetThen.mk [] [1472] ?_;cbv)|(refine Nl fun _ _ hq=>?_;(try simp only [lenS] at hq);cbv)|(refine Nm fun _ _=>?_;cbv)|(refine Br.t ?_ ?_;(focus first|assumption|lia);cbv)|(refine Br.f ?_ ?_;(focus first|assumption|lia);cbv)|(refine Br.mk (fun _=>?_) (fun _=>?_)<;>cbv)|(refine Need.mk ?_ ?_;rotate_left;cbv)|(refine R0 ?_;cbv))
    all_goals try first
     | (exfalso;clear k1 k2 k3 k4 k5 k6 hx k7;lia)
     | (clear k1 k2 k3 k4 k5 k6 hx k7;lia)
    all_goals(repeat' apply And.intro)
    all_goals first
     | exact True.intro
     | exact WkR.refl _
     | rfl
     | exact e1
     | exact e2
     | exact e3
     | exact e4
     | exact Int.natCast_nonneg _
     | exact hpl
     | (refine Nm fun _ e=>⟨.of_eq e.symm,?_⟩;cbv;(repeat' apply And.intro)<;>first|exact True.intro|exact WkR.refl _|rfl|exact e1|exact e2|exact e3|exact e4)
     | trace_state
   ·rw[if_neg (fun k=>hi k.2)] at hT
    by_cases hj:q.id<x.id
    ·rw[if_pos ⟨rfl,hj⟩] at hT
     cases hT
     clear G h ht hs s1 s2 hcc hg ep he k7
     obtain⟨docs,⟨base,total,chs,subs⟩,l⟩:=d
     obtain⟨qc,qi,⟨kind,key,to,doc,want,has,n,most,ops,ods,ons⟩⟩:=q
     obtain⟨xc,xi,⟨ac,ah,ad,ads,ans,an,at',ak⟩⟩:=x
     replace hj:qi<xi:=hj
     replace hi:¬ xi=qi:=hi
     replace hc:qc≠0:=hc
     refine goM (modeOf 75 [.own]) (fn:=Proofs.Tryz.f29) (n:=143) (rv:=[ResultVar.cell 4 65,ResultVar.cell 5 37,ResultVar.tmp 6]) rfl (by decide) rfl (by decide +kernel) rfl rfl (by simp) fun F L C=>?_
     cbv
     (repeat' first|(refine Na ?_ fun _ _=>?_;(focus lia);cbv)|(refine CallThen.mk _ _ (C.fn (k1)) ?_;cbv)|(refine CallThen.mk _ _ (C.fn (k2)) ?_;cbv)|(refine CallThen.mk _ _ (C.fn (k3)) ?_;cbv)|(refine CallThen.mk _ _ (C.fn (k4)) ?_;cbv)|(refine CallThen.mk _ _ (C.fn (k5)) ?_;cbv)|(refine CallThen.mk _ _ (C.fn (k6)) ?_;cbv)|(refine Ex.known O (LastR.enc O) rfl hx ?_ ?_;(focus lia);cbv)|(refine RetThen.mk [] [1472] ?_;cbv)|(refine Nl fun _ _ hq=>?_;(try simp only [lenS] at hq);cbv)|(refine Nm fun _ _=>?_;cbv)|(refine Br.t ?_ ?_;(focus first|assumption|lia);cbv)|(refine Br.f ?_ ?_;(focus first|assumption|lia);cbv)|(refine Br.mk (fun _=>?_) (fun _=>?_)<;>cbv)|(refine Need.mk ?_ ?_;rotate_left;cbv)|(refine R0 ?_;cbv))
     all_goals try first
      | (exfalso;clear k1 k2 k3 k4 k5 k6 hx;lia)
      | (clear k1 k2 k3 k4 k5 k6 hx;lia)
     all_goals(repeat' apply And.intro)
     all_goals first
      | exact True.intro
      | exact WkR.refl _
      | rfl
      | exact e1
      | exact e2
      | exact e3
      | exact e4
      | exact Int.natCast_nonneg _
      | exact hpl
      | (refine Nm fun _ e=>⟨.of_eq e.symm,?_⟩;cbv;(repeat' apply And.intro)<;>first|exact True.intro|exact WkR.refl _|rfl|exact e1|exact e2|exact e3|exact e4)
      | trace_state
    ·rw[if_neg (fun k=>hj k.2),if_neg (by simp)] at hT
     cases hT
  | false =>
   rw[hg] at hT k4
   rw[if_neg (by simp),if_neg (by simp)] at hT
   by_cases h8:d.last.length=8
   ·rw[if_pos ⟨rfl,h8⟩] at hT
    cases hT
    clear G h ht hs s1 s2 hcc hg
    obtain⟨docs,⟨base,total,chs,subs⟩,l⟩:=d
    obtain⟨qc,qi,⟨kind,key,to,doc,want,has,n,most,ops,ods,ons⟩⟩:=q
    replace h8:l.length=8:=h8
    replace hc:qc≠0:=hc
    replace hlen:(O.o (Lasts.enc O) l).length=l.length:=hlen
    refine goM (modeOf 75 [.own]) (fn:=Proofs.Tryz.f29) (n:=143) (rv:=[ResultVar.cell 4 65,ResultVar.cell 5 37,ResultVar.tmp 6]) rfl (by decide) rfl (by decide +kernel) rfl rfl (by simp) fun F L C=>?_
    cbv
    (repeat' first|(refine Na ?_ fun _ _=>?_;(focus lia);cbv)|(refine CallThen.mk _ _ (C.fn (k1)) ?_;cbv)|(refine CallThen.mk _ _ (C.fn (k2)) ?_;cbv)|(refine CallThen.mk _ _ (C.fn (k3)) ?_;cbv)|(refine CallThen.mk _ _ (C.fn (k4)) ?_;cbv)|(refine CallThen.mk _ _ (C.fn (k5)) ?_;cbv)|(refine CallThen.mk _ _ (C.fn (k6)) ?_;cbv)|(fail)|(refine RetThen.mk [] [1472] ?_;cbv)|(refine Nl fun _ _ hq=>?_;(try simp only [lenS] at hq);cbv)|(refine Nm fun _ _=>?_;cbv)|(refine Br.t ?_ ?_;(focus first|assumption|lia);cbv)|(refine Br.f ?_ ?_;(focus first|assumption|lia);cbv)|(refine Br.mk (fun _=>?_) (fun _=>?_)<;>cbv)|(refine Need.mk ?_ ?_;rotate_left;cbv)|(refine R0 ?_;cbv))
    all_goals try first
     | (exfalso;clear k1 k2 k3 k4 k5 k6 e1;lia)
     | (clear k1 k2 k3 k4 k5 k6 e1;lia)
    all_goals(repeat' apply And.intro)
    all_goals first
     | exact True.intro
     | exact WkR.refl _
     | rfl
     | exact e1
     | exact e2
     | exact e3
     | exact e4
     | exact Int.natCast_nonneg _
     | exact hpl
     | (refine Nm fun _ e=>⟨.of_eq e.symm,?_⟩;cbv;(repeat' apply And.intro)<;>first|exact True.intro|exact WkR.refl _|rfl|exact e1|exact e2|exact e3|exact e4)
     | trace_state
   ·rw[if_neg (fun k=>h8 k.2)] at hT
    cases hT
 ·rw[if_pos hcc] at hT
  cases hT
  have hcc:¬ (O.o countB q.client=true∧O.o countB q.id=true):=by rw[O.h];exact hcc
  obtain⟨c1,ec1⟩:∃ c,c=O.o countB q.client:=⟨_,rfl⟩
  obtain⟨c2,ec2⟩:∃ c,c=O.o countB q.id:=⟨_,rfl⟩
  obtain⟨Z,eZ⟩:∃ c,c=O.o seekZ d.last q.client:=⟨_,rfl⟩
  obtain⟨B,eB⟩:∃ c,c=O.o seekB d.last q.client:=⟨_,rfl⟩
  rw[← ec1] at k5 hcc
  rw[← ec2] at k6 hcc
  rw[← eZ,← eB] at k4
  clear G h ht hs ec1 ec2 eZ eB
  obtain⟨docs,⟨base,total,chs,subs⟩,l⟩:=d
  obtain⟨qc,qi,⟨kind,key,to,doc,want,has,n,most,ops,ods,ons⟩⟩:=q
  replace hc:qc≠0:=hc
  cases c1<;>cases c2
  all_goals try(exfalso;exact hcc ⟨rfl,rfl⟩)
  all_goals
   refine goM (modeOf 75 [.own]) (fn:=Proofs.Tryz.f29) (n:=143) (rv:=[ResultVar.cell 4 65,ResultVar.cell 5 37,ResultVar.tmp 6]) rfl (by decide) rfl (by decide +kernel) rfl rfl (by simp) fun F L C=>?_
   cbv
   (repeat' first|(refine Na ?_ fun _ _=>?_;(focus lia);cbv)|(refine CallThen.mk _ _ (C.fn (k1)) ?_;cbv)|(refine CallThen.mk _ _ (C.fn (k2)) ?_;cbv)|(refine CallThen.mk _ _ (C.fn (k3)) ?_;cbv)|(refine CallThen.mk _ _ (C.fn (k4)) ?_;cbv)|(refine CallThen.mk _ _ (C.fn (k5)) ?_;cbv)|(refine CallThen.mk _ _ (C.fn (k6)) ?_;cbv)|(fail)|(refine RetThen.mk [] [1472] ?_;cbv)|(refine Nl fun _ _ hq=>?_;(try simp only [lenS] at hq);cbv)|(refine Nm fun _ _=>?_;cbv)|(refine Br.t ?_ ?_;(focus first|assumption|lia);cbv)|(refine Br.f ?_ ?_;(focus first|assumption|lia);cbv)|(refine Br.mk (fun _=>?_) (fun _=>?_)<;>cbv)|(refine Need.mk ?_ ?_;rotate_left;cbv)|(refine R0 ?_;cbv))
   all_goals try first
    | (exfalso;clear k1 k2 k3 k4 k5 k6 hcc;lia)
    | (clear k1 k2 k3 k4 k5 k6 hcc;lia)
   all_goals(repeat' apply And.intro)
   all_goals first
    | exact True.intro
    | exact WkR.refl _
    | rfl
    | exact e1
    | exact e2
    | exact e3
    | exact e4
    | exact Int.natCast_nonneg _
    | exact hpl
    | (refine Nm fun _ e=>⟨.of_eq e.symm,?_⟩;cbv;(repeat' apply And.intro)<;>first|exact True.intro|exact WkR.refl _|rfl|exact e1|exact e2|exact e3|exact e4)
    | trace_state
set_option maxHeartbeats 8000000 in
theorem dapply_there (O:Opq) (d:Depot) (q:Reqn) (h:DepIn d) (hso:SmallO q.op 1099511627) (ht:turnsB q.op.kind=true) (hc:q.client≠0) (hN:toldL d.last q.client q.id=none) (hg:getL d.last q.client=true) (D2:List Ndoc) (F2:Feed) (A2:Answer) (hT:turnR d q.op=(⟨D2,F2,d.last⟩,A2)) (hA:AnsIn A2 1099511627) :
  Fn prog 29 [.agg (d.enc O),.agg (q.en O)] [] [.agg (Depot.enc O ⟨D2,F2,putL d.last ⟨q.client,q.id,A2⟩⟩),.agg (A2.enc O),.int .i64 0] []:=by
 have G:=depGood O h
 have k1:=G.chk
 have k2:=G.own
 have k3:=dturns_fn O q.op
 rw[show O.o turnsB q.op.kind=true by rw[O.h];exact ht] at k3
 have hl8:=(lastsOk_iff.1 G.last).1
 have k4:=bsearchL_fn O d.last q.client (by omega)
 have k5:=dcount_fn O q.client
 have k6:=dcount_fn O q.id
 have k7:=dturn_fn O d q.op G.docs G.feed h.chs hso D2 F2 A2 hT
 have k8:=danswer_fn O A2 hA
 have hlen:=Lasts.len O d.last
 have hs:=(lastsOk_iff.1 G.last).2.2
 unfold toldL at hN
 have hcc:countB q.client=true∧countB q.id=true:=by
  by_cases hcc:countB q.client=true∧countB q.id=true
  ·exact hcc
  ·rw[if_pos hcc] at hN;cases hN
 rw[if_neg (fun n=>n hcc)] at hN
 obtain⟨s1,s2⟩:=seek_ok G.last hcc.1
 rw[show O.o seekZ d.last q.client=(posL d.last q.client:Int) by rw[O.h,seekZ,s1],show O.o seekB d.last q.client=getL d.last q.client by rw[O.h,s2],hg] at k4
 rw[show O.o countB q.client=true by rw[O.h];exact hcc.1] at k5
 rw[show O.o countB q.id=true by rw[O.h];exact hcc.2] at k6
 obtain⟨x,hx,he⟩:=posL_there hs hg
 rw[hg,lastA_at hx] at hN
 have hi:x.id≠q.id:=fun e=>by rw[if_pos ⟨rfl,e⟩] at hN;cases hN
 rw[if_neg (fun k=>hi k.2)] at hN
 have hj:¬ q.id<x.id:=fun e=>by rw[if_pos ⟨rfl,e⟩] at hN;cases hN
 have hput:Lasts.enc O (putL d.last ⟨q.client,q.id,A2⟩)=(Lasts.enc O d.last).set (posL d.last q.client) (LastR.enc O ⟨q.client,q.id,A2⟩):=by
  rw[putL_set hg,Lasts.enc,Lasts.enc,List.map_set]
 obtain⟨p,ep⟩:∃ p,p=posL d.last q.client:=⟨_,rfl⟩
 rw[← ep] at hx k4 hput
 have hpl:(p:Int)<(O.o (Lasts.enc O) d.last).length:=by have:=(List.getElem?_eq_some_iff.1 hx).1;rw[hlen];omega
 obtain⟨W,eW⟩:∃ W,W=O.o (Lasts.enc O) (putL d.last ⟨q.client,q.id,A2⟩):=⟨_,rfl⟩
 have hW:W=(O.o (Lasts.enc O) d.last).set p (LastR.enc O ⟨q.client,q.id,A2⟩):=by rw[eW,O.h,hput]
 have goal:Fn prog 29 [.agg (d.enc O),.agg (q.en O)] [] [.agg [.sl false 0 false 2 (O.o (Nms.enc O) D2),.int .i64 F2.base,.int .i64 F2.total,.sl false 0 false 4 (O.o (Chs.enc O) F2.changes),.sl false 0 false 2 (O.o Subs.enc F2.subs),.sl false 0 false 10 W],.agg (A2.enc O),.int .i64 0] []:=by
  clear eW hput ep s1 s2 hcc hN hT hA G h hso ht hg hs hl8
  obtain⟨docs,⟨base,total,chs,subs⟩,l⟩:=d
  obtain⟨qc,qi,⟨kind,key,to,doc,want,has,n,most,ops,ods,ons⟩⟩:=q
  obtain⟨xc,xi,⟨yc,yh,yd,yds,yns,yn,yt,yk⟩⟩:=x
  obtain⟨ac,ah,ad,ads,ans,an,at',ak⟩:=A2
  obtain⟨fb,ft,fc,fs⟩:=F2
  replace hc:qc≠0:=hc
  replace hi:xi≠qi:=hi
  replace hj:¬ qi<xi:=hj
  replace he:xc=qc:=he
  replace hx:l[p]?=some ⟨xc,xi,⟨yc,yh,yd,yds,yns,yn,yt,yk⟩⟩:=hx
  replace hpl:(p:Int)<(O.o (Lasts.enc O) l).length:=hpl
  have hpn:p<(O.o (Lasts.enc O) l).length:=by omega
  replace hW:W=(O.o (Lasts.enc O) l).set p (LastR.enc O ⟨qc,qi,⟨ac,ah,ad,ads,ans,an,at',ak⟩⟩):=hW
  subst he
  refine goM (modeOf 75 [.own]) (fn:=Proofs.Tryz.f29) (n:=143) (rv:=[ResultVar.cell 4 65,ResultVar.cell 5 37,ResultVar.tmp 6]) rfl (by decide) rfl (by decide +kernel) rfl rfl (by simp) fun F L C=>?_
  cbv
  (repeat' first|(refine Na ?_ fun _ _=>?_;(focus lia);cbv)|(refine CallThen.mk _ _ (C.fn (k1)) ?_;cbv)|(refine CallThen.mk _ _ (C.fn (k2)) ?_;cbv)|(refine CallThen.mk _ _ (C.fn (k3)) ?_;cbv)|(refine CallThen.mk _ _ (C.fn (k4)) ?_;cbv)|(refine CallThen.mk _ _ (C.fn (k5)) ?_;cbv)|(refine CallThen.mk _ _ (C.fn (k6)) ?_;cbv)|(refine Ex.known O (LastR.enc O) rfl hx ?_ ?_;(focus lia);cbv)|(refine CallThen.mk _ _ (C.fn (k7)) ?_;cbv)|(refine CallThen.mk _ _ (C.fn (k8)) ?_;cbv)|(refine RetThen.mk [] [1472] ?_;cbv)|(refine Nl fun _ _ hq=>?_;(try simp only [lenS] at hq);cbv)|(refine Nm fun _ _=>?_;cbv)|(refine Br.t ?_ ?_;(focus first|assumption|lia);cbv)|(refine Br.f ?_ ?_;(focus first|assumption|lia);cbv)|(refine Br.mk (fun _=>?_) (fun _=>?_)<;>cbv)|(refine Need.mk ?_ ?_;rotate_left;cbv)|(refine R0 ?_;cbv))
  all_goals try first
   | (exfalso;clear k1 k2 k3 k4 k5 k6 k7 k8 hx hW;lia)
  all_goals try(refine⟨Int.natCast_nonneg _,?_⟩;first|exact hpl|(rename_i hq;rw[hq];exact hpl)|(simp only [*];exact hpl))
  rename_i n1 e1 n2 e2 n3 e3 R eR n4 e4
  have hr:R[(Int.ofNat n4).toNat]?=some [.int .i64 xc,.int .i64 qi,.int .i64 yc,.bool yh,.sl false 0 false 6 (O.o Doc.enc yd),.sl false 0 false 2 (O.o (Nms.enc O) yds),.sl false 0 false 4 (O.o (Chs.enc O) yns),.int .i64 yn,.int .i64 yt,.sl false 0 false 2 (O.o Prs.enc yk)]:=by
   show R[n4]?=_
   rw[e4,eR,e3,natTo,List.getElem?_set_self hpn]
   rfl
  refine Ex.at _ ⟨Int.natCast_nonneg _,hr⟩ ?_
  cbv
  (repeat' first|(refine Na ?_ fun _ _=>?_;(focus lia);cbv)|(refine RetThen.mk [] [1472] ?_;cbv)|(refine Nl fun _ _ hq=>?_;(try simp only [lenS] at hq);cbv)|(refine Nm fun _ _=>?_;cbv)|(refine Br.t ?_ ?_;(focus first|assumption|lia);cbv)|(refine Br.f ?_ ?_;(focus first|assumption|lia);cbv)|(refine Br.mk (fun _=>?_) (fun _=>?_)<;>cbv)|(refine Need.mk ?_ ?_;rotate_left;cbv)|(refine R0 ?_;cbv))
  rename_i S eS
  refine⟨.refl _,.refl _,.refl _,Named.mk fun rs er=>⟨.of_eq ?_,?_⟩⟩
  ·rw[er,eS,eR,e3,e4,natTo,List.set_set,hW];rfl
  ·cbv
   (repeat' apply And.intro)<;>first|exact True.intro|exact WkR.refl _|rfl|trace_state
 rw[eW] at goal
 exact goal
end Go.Sym
