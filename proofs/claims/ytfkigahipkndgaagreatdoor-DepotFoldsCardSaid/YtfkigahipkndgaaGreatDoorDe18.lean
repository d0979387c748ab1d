/- The law DepotFolds, walked. -/
import Derived.Test.YtfkigahipkndgaaGreatDoorK30
set_option linter.all false
set_option linter.unusedVariables false
set_option linter.unusedSimpArgs false
namespace Go.Sym
open Go Go.Proofs.Tryz
set_option maxRecDepth 100000
def Reqs.enc (O:Opq) (l:List Reqn):List (List PV):=l.map (Reqn.en O)
def totAt (t:Int) (m:Nat) (k:Nat):Int:=t+((k-m:Nat):Int)
theorem Reqs.len (O:Opq) (l:List Reqn):(O.o (Reqs.enc O) l).length=l.length:=by rw[O.h,Reqs.enc,List.length_map]
set_option maxHeartbeats 8000000 in
theorem depotFolds_fn (O:Opq) (l:List Reqn) (hl:l.length≤9223372036854775807):Fn prog 7 [.sl false 0 false 13 (O.o (Reqs.enc O) l)] [] [.bool true] []:=by
 have aw:=awake14_fn O
 have hlen:=Reqs.len O l
 obtain⟨N,hN⟩:∃ N:Nat,N=l.length:=⟨_,rfl⟩
 obtain⟨z,hz⟩:∃ z:Nat,z=0:=⟨_,rfl⟩
 obtain⟨Z,eZ⟩:∃ Z:Depot,Z=zeroD:=⟨_,rfl⟩
 have hZ:DepFew Z (4 * z):=by rw[eZ,hz];exact zeroD_few
 have e1:O.o (Nms.enc O) Z.docs=[]:=by rw[O.h,eZ];rfl
 have e2:O.o (Chs.enc O) Z.feed.changes=[]:=by rw[O.h,eZ];rfl
 have e5:O.o Subs.enc Z.feed.subs=[]:=by rw[O.h,eZ];rfl
 have e6:O.o (Lasts.enc O) Z.last=[]:=by rw[O.h,eZ];rfl
 have e7:Z.feed.base=0∧Z.feed.total=0:=by rw[eZ];exact⟨rfl,rfl⟩
 clear eZ
 refine go (fn:=Proofs.Tryz.f7) (n:=107) (rv:=[ResultVar.tmp 2]) rfl (by decide) rfl (by decide +kernel) rfl rfl (by simp) fun F L C=>?_
 cbv
 (repeat' first|(refine Na ?_ fun _ _=>?_;(focus lia);cbv)|(refine Nl fun _ _ hq=>?_;(try simp only [lenS] at hq);cbv)|(refine Nm fun _ _=>?_;cbv)|(refine Br.t ?_ ?_;(focus first|assumption|lia);cbv)|(refine Br.f ?_ ?_;(focus first|assumption|lia);cbv)|(refine Br.mk (fun _=>?_) (fun _=>?_)<;>cbv)|(refine Need.mk ?_ ?_;rotate_left;cbv)|(refine R0 ?_;cbv))
 refine LoopThen.mk (C.loopAt (ι:=Nat×Depot) [(2,2),(4,11),(14,106)] (fun x=>[(2,.bool false),(4,.sl false 0 false 2 (O.o (Nms.enc O) x.2.docs)),(5,.int .i64 x.2.feed.total),(6,.int .i64 x.1),(13,.top)]) (fun x=>[(320,.box [.sl false 0 false 2 (O.o (Nms.enc O) x.2.docs),.int .i64 x.2.feed.base,.int .i64 x.2.feed.total,.sl false 0 false 4 (O.o (Chs.enc O) x.2.feed.changes),.sl false 0 false 2 (O.o Subs.enc x.2.feed.subs),.sl false 0 false 10 (O.o (Lasts.enc O) x.2.last)])])
  (fun x=>x.1≤N∧x.1≤30∧DepFew x.2 (4 * x.1)) (fun x=>N-x.1) (by decide +kernel) (Start.mk (z,Z) [] [960] ⟨by show z≤N;omega,by show z≤30;omega,hZ⟩ ?_) ?_)
 ·cbv
  (repeat' apply And.intro)<;>first|exact True.intro|exact WkR.refl _|rfl|lia|exact e7.1|exact e7.2|exact e1|exact e2|exact e5|exact e6|exact .of_eq e1|(refine Nm fun rs er=>⟨.of_eq ?_,?_⟩;(focus(rw[er];exact e1));cbv;(repeat' apply And.intro)<;>first|exact True.intro|exact WkR.refl _|rfl|lia|exact e7.2|exact e7.2.symm)|trace_state
 clear hZ e1 e2 e5 e6 e7
 intro x g
 cbv
 obtain⟨i,d⟩:=x
 have i1:i≤N:=g.1
 have i2:i≤30:=g.2.1
 have i3:DepFew d (4 * i):=g.2.2
 clear g
 by_cases hi:i<l.length∧i<30
 ·obtain⟨hi1,hi2⟩:=hi
  obtain⟨q,hq⟩:∃ q,l[i]?=some q:=⟨l[i],by simp [hi1]⟩
  have g2:=llight_fn O q.op
  by_cases hlt:lightO q.op=true
  ·rw[show O.o lightO q.op=true by rw[O.h];exact hlt] at g2
   obtain⟨D',A',hR⟩:∃ D' A',depotR d q=(D',A'):=⟨_,_,rfl⟩
   have hF':DepFew D' (4 * i+4)∧FewA A':=by have h:=depotR_few q i3;rw[hR] at h;exact h
   have hnew:=depotR_new q i3.may
   rw[hR] at hnew
   obtain⟨⟨M,cs,hNC⟩,hsame⟩:=hnew
   have k1:=dapply_ok O d q i3 (by omega) (light_small hlt _ (by decide)) D' A' hR
   have t2:=rturns_fn O q.op.kind
   have k8:=rsame14_fn O d D' (i3.sz (by omega))
   have hTS:O.o turnsB q.op.kind=false→O.o sameDp d D'=true:=fun h=>by
    rw[O.h] at h ⊢;exact sameDp_iff.2 (hsame h).symm
   obtain⟨T,eT⟩:∃ T,T=O.o turnsB q.op.kind:=⟨_,rfl⟩
   obtain⟨S,eS⟩:∃ T,T=O.o sameDp d D':=⟨_,rfl⟩
   rw[← eT] at t2 hTS
   rw[← eS] at k8 hTS
   obtain⟨n1,n2,n3⟩:=mayDp_iff.1 hF'.1.may
   obtain⟨m1,m2,m3⟩:=mayDp_iff.1 i3.may
   have y:=mayD_iff.1 n1
   have yd:=mayD_iff.1 m1
   have k6:=docs_same O D'.docs (by omega) (fun n hn=>by have:=may_len (y.2.1 n hn).2;omega)
   have fb:=mayF_in n2 (Nat.le_trans hF'.1.chs (by omega))
   have fd:=(mayF_in m2 (Nat.le_trans i3.chs (by omega))).2.2.2
   have k9:=rmayF_fn O D'.feed (by have:=fb.1.1;omega) (by omega) (fun c hc=>⟨by have:=fb.2.2.1 c hc;omega,by
    obtain⟨j,hj,rfl⟩:=List.getElem_of_mem hc
    exact may_paths ((mayF_iff.1 n2).2.1 j _ hj (List.getElem?_eq_getElem hj)).2.2.1⟩)
   rw[show O.o mayF D'.feed=true by rw[O.h];exact n2] at k9
   have hcl:=Chs.len O D'.feed.changes
   have hCl:D'.feed.changes.length=M.length+cs.length:=by rw[hNC.chs,List.length_append]
   have hC4:D'.feed.changes.length≤200:=by have:=hF'.1.chs;omega
   have hdc:∀ c∈D'.feed.changes,c.doc.length≤1099511627:=fun c hc=>(fb.1.2.2 c hc).2
   have hT1:=hNC.total
   have hF2:=hF'.1
   clear eT eS hsame hR hF' fb n3 m3 m2 n2 hlt
   obtain⟨docs,⟨base,total,chs,subs⟩,ll⟩:=d
   obtain⟨qc,qi,⟨kind,key,to,doc,want,has,n,most,ops,ods,ons⟩⟩:=q
   obtain⟨docs',⟨base',total',chs',subs'⟩,l'⟩:=D'
   obtain⟨ac,ah,ad,ads,ans,an,at',ak⟩:=A'
   replace hT1:total'=total+cs.length:=hT1
   replace hcl:(O.o (Chs.enc O) chs').length=chs'.length:=hcl
   replace hCl:chs'.length=M.length+cs.length:=hCl
   replace hC4:chs'.length≤200:=hC4
   replace fd:0≤base∧base≤total∧total≤2147483647:=fd
   have hdocs:docs'=foldAll docs cs:=hNC.docs
   have hchs:chs'=M++cs:=hNC.chs
   have hold:∀ c∈M,c.pos≤total:=hNC.old
   have hpos:posFrom total cs:=hNC.pos
   replace hdc:∀ c∈chs',c.doc.length≤1099511627:=hdc
   have hsd:sortedK Ndoc.key docs:=yd.2.2
   have hld:docs.length≤24:=yd.1
   have i4:=i3
   clear hNC y yd n1 m1 i3
   (repeat' first|(refine Na ?_ fun _ _=>?_;(focus lia);cbv)|(refine Ex.known O (Reqn.en O) rfl hq ?_ ?_;(focus lia);cbv)|(refine CallThen.mk _ _ (C.fn (g2)) ?_;cbv)|(refine CallThen.mk _ _ (C.fn (k1)) ?_;cbv)|(refine Nl fun _ _ hq=>?_;(try simp only [lenS] at hq);cbv)|(refine Nm fun _ _=>?_;cbv)|(refine Br.t ?_ ?_;(focus first|assumption|lia);cbv)|(refine Br.f ?_ ?_;(focus first|assumption|lia);cbv)|(refine Br.mk (fun _=>?_) (fun _=>?_)<;>cbv)|(refine Need.mk ?_ ?_;rotate_left;cbv)|(refine R0 ?_;cbv))
   all_goals try(exfalso;clear hq g2 k1 t2 k8 k6 k9 hTS;lia)
   obtain⟨m,hm⟩:∃ m:Nat,m=M.length:=⟨_,rfl⟩
   have hv0:O.o (totAt total m) z=total:=by rw[O.h];show total+((z-m:Nat):Int)=total;omega
   refine LoopThen.mk (C.loopAt (ι:=Nat×List Ndoc) [(4,5),(10,11),(50,73)] (fun x=>[(2,.bool false),(4,.sl false 0 false 2 (O.o (Nms.enc O) x.2)),(5,.int .i64 (O.o (totAt total m) x.1)),(10,.int .i64 x.1)]) (fun x=>[(320,.box [.sl false 0 false 2 (O.o (Nms.enc O) docs),.int .i64 base,.int .i64 total,.sl false 0 false 4 (O.o (Chs.enc O) chs),.sl false 0 false 2 (O.o Subs.enc subs),.sl false 0 false 10 (O.o (Lasts.enc O) ll)]),(576,.box [.sl false 0 false 2 (O.o (Nms.enc O) docs'),.int .i64 base',.int .i64 total',.sl false 0 false 4 (O.o (Chs.enc O) chs'),.sl false 0 false 2 (O.o Subs.enc subs'),.sl false 0 false 10 (O.o (Lasts.enc O) l')]),(640,.box [.int .i64 ac,.bool ah,.sl false 0 false 6 (O.o Doc.enc ad),.sl false 0 false 2 (O.o (Nms.enc O) ads),.sl false 0 false 4 (O.o (Chs.enc O) ans),.int .i64 an,.int .i64 at',.sl false 0 false 2 (O.o Prs.enc ak)])])
    (fun x=>x.1≤chs'.length∧x.2=foldAll docs (cs.take (x.1-M.length))) (fun x=>chs'.length-x.1) (by decide +kernel) (Start.mk (z,docs) [] [] ⟨by show z≤_;omega,by show docs=foldAll docs (cs.take (z-M.length));rw[hz,Nat.zero_sub];rfl⟩ ?_) ?_)
   ·cbv
    (repeat' apply And.intro)<;>first|exact True.intro|exact WkR.refl _|rfl|exact hv0|exact hv0.symm|lia|trace_state
   clear hv0
   intro x g
   cbv
   obtain⟨k,f⟩:=x
   have j1:k≤chs'.length:=g.1
   have j2:f=foldAll docs (cs.take (k-M.length)):=g.2
   clear g
   have hfs:sortedK Ndoc.key f:=by rw[j2];exact foldAll_sorted hsd
   have hfl:f.length≤300:=by
    have:=foldAll_len (l:=docs) (cs:=cs.take (k-M.length))
    rw[List.length_take] at this
    rw[j2];omega
   by_cases hk:k<chs'.length
   ·obtain⟨c,hc⟩:∃ c,chs'[k]?=some c:=⟨chs'[k],by simp [hk]⟩
    by_cases hkM:k<M.length
    ·have hcp:c.pos≤total:=by
      have hc2:=hc
      rw[hchs,List.getElem?_append_left hkM] at hc2
      exact hold c (List.mem_of_getElem? hc2)
     have hz1:k-M.length=0:=by omega
     have hz2:k+1-M.length=0:=by omega
     have hnx:f=foldAll docs (cs.take (k+1-M.length)):=by rw[hz2];rw[hz1] at j2;exact j2
     have hv:O.o (totAt total m) k=total:=by rw[O.h];show total+((k-m:Nat):Int)=total;omega
     have hv2:O.o (totAt total m) (k+1)=total:=by rw[O.h];show total+((k+1-m:Nat):Int)=total;omega
     clear hz1 hz2 hold hpos hchs j2 hfs i4 hdocs hdc k6 k8 k9 t2 hTS g2 hF2
     obtain⟨cp,ck,ch,cd⟩:=c
     replace hcp:cp≤total:=hcp
     (repeat' first|(refine Na ?_ fun _ _=>?_;(focus lia);cbv)|(refine Ex.known O (Change.enc O) rfl hc ?_ ?_;(focus lia);cbv)|(refine Back.to (k+1,f) [] [] ?_ fun _ _=>?_;rotate_left;cbv)|(refine Nl fun _ _ hq=>?_;(try simp only [lenS] at hq);cbv)|(refine Nm fun _ _=>?_;cbv)|(refine Br.t ?_ ?_;(focus first|assumption|lia);cbv)|(refine Br.f ?_ ?_;(focus first|assumption|lia);cbv)|(refine Br.mk (fun _=>?_) (fun _=>?_)<;>cbv)|(refine Need.mk ?_ ?_;rotate_left;cbv)|(refine R0 ?_;cbv))
     all_goals try first
      | (exfalso;clear hc;lia)
      | (clear hc;lia)
      | exact⟨⟨by show k+1≤chs'.length;omega,hnx⟩,by show chs'.length-(k+1)<chs'.length-k;omega⟩
     all_goals first
      | (rename_i y ey;subst ey;(repeat' apply And.intro)<;>first|exact True.intro|exact WkR.refl _|rfl|(dsimp only;clear hc;lia)|trace_state)
      | trace_state
    ·have hcc:cs[k-M.length]?=some c:=by
      have hc2:=hc
      rw[hchs,List.getElem?_append_right (by omega)] at hc2
      exact hc2
     have hcp:c.pos=total+((k-M.length:Nat):Int)+1:=hpos _ c hcc
     have hs1:k+1-M.length=k-M.length+1:=by omega
     have hnx:foldD f c=foldAll docs (cs.take (k+1-M.length)):=by rw[hs1,j2];exact(foldAll_take hcc).symm
     have f2:=rfold_fn O f c (by omega) hfs
     rw[show O.o (foldD f) c=foldD f c by rw[O.h]] at f2
     obtain⟨f',ef⟩:∃ x,x=foldD f c:=⟨_,rfl⟩
     rw[← ef] at f2 hnx
     have hv:O.o (totAt total m) k+1=c.pos:=by rw[O.h];show total+((k-m:Nat):Int)+1=_;rw[hm];omega
     have hv2:O.o (totAt total m) (k+1)=c.pos:=by rw[O.h];show total+((k+1-m:Nat):Int)=_;rw[hm];omega
     have hb:-1000≤c.pos∧c.pos≤total':=by clear hpos hold hq hc hcc f2 hnx k1 k6 k8 k9 t2 g2 aw hF2 i4 hdc;lia
     clear hs1 hold hpos hchs j2 hfs i4 hdocs hdc k6 k8 k9 t2 hTS g2 hF2 hcc ef
     obtain⟨cp,ck,ch,cd⟩:=c
     replace hv:O.o (totAt total m) k+1=cp:=hv
     replace hv2:O.o (totAt total m) (k+1)=cp:=hv2
     (repeat' first|(refine Na ?_ fun _ _=>?_;(focus lia);cbv)|(refine Ex.known O (Change.enc O) rfl hc ?_ ?_;(focus lia);cbv)|(refine CallThen.mk _ _ (C.fn (f2)) ?_;cbv)|(refine Back.to (k+1,f') [] [] ?_ fun _ _=>?_;rotate_left;cbv)|(refine Nl fun _ _ hq=>?_;(try simp only [lenS] at hq);cbv)|(refine Nm fun _ _=>?_;cbv)|(refine Br.t ?_ ?_;(focus first|assumption|lia);cbv)|(refine Br.f ?_ ?_;(focus first|assumption|lia);cbv)|(refine Br.mk (fun _=>?_) (fun _=>?_)<;>cbv)|(refine Need.mk ?_ ?_;rotate_left;cbv)|(refine R0 ?_;cbv))
     all_goals try first
      | (exfalso;clear hc f2 hnx;lia)
      | (clear hc f2 hnx;lia)
      | exact⟨⟨by show k+1≤chs'.length;omega,hnx⟩,by show chs'.length-(k+1)<chs'.length-k;omega⟩
     all_goals first
      | (rename_i y ey;subst ey;(repeat' apply And.intro)<;>first|exact True.intro|exact WkR.refl _|rfl|(dsimp only;clear hc f2 hnx;lia)|trace_state)
      | trace_state
   ·have hff:f=docs':=by rw[j2,hdocs,List.take_of_length_le (by omega)]
    have hvv:O.o (totAt total m) k=total':=by rw[O.h];show total+((k-m:Nat):Int)=_;rw[hm];clear hpos hold hq k1 k6 k8 k9 t2 g2 aw hF2 i4 hdc;lia
    subst hff
    clear hold hpos hchs j2 hfs hdocs hdc i4 hsd
    cases T<;>cases S
    all_goals try(exfalso;exact absurd (hTS rfl) (by decide))
    all_goals
     (repeat' first|(refine Na ?_ fun _ _=>?_;(focus lia);cbv)|(refine Ex.known O (Reqn.en O) rfl hq ?_ ?_;(focus lia);cbv)|(refine CallThen.mk _ _ (C.fn (k6)) ?_;cbv)|(refine CallThen.mk _ _ (C.fn (k9)) ?_;cbv)|(refine CallThen.mk _ _ (C.fn (t2)) ?_;cbv)|(refine CallThen.mk _ _ (C.fn (k8)) ?_;cbv)|(refine Back.to (i+1,⟨f,⟨base',total',chs',subs'⟩,l'⟩) [] [] ?_ fun _ _=>?_;rotate_left;cbv)|(refine Nl fun _ _ hq=>?_;(try simp only [lenS] at hq);cbv)|(refine Nm fun _ _=>?_;cbv)|(refine Br.t ?_ ?_;(focus first|assumption|lia);cbv)|(refine Br.f ?_ ?_;(focus first|assumption|lia);cbv)|(refine Br.mk (fun _=>?_) (fun _=>?_)<;>cbv)|(refine Need.mk ?_ ?_;rotate_left;cbv)|(refine R0 ?_;cbv))
     all_goals try first
      | (exfalso;clear hq k6 k9 k8 t2 aw hF2;lia)
      | (exfalso;simp_all;done)
      | exact⟨⟨by show i+1≤N;omega,by show i+1≤30;omega,hF2⟩,by show N-(i+1)<N-i;omega⟩
     all_goals first
      | (rename_i y ey;subst ey;(repeat' apply And.intro)<;>first|exact True.intro|exact WkR.refl _|rfl|(dsimp only;clear hq k6 k9 k8 t2 aw hF2;lia)|trace_state)
      | trace_state
  ·rw[show O.o lightO q.op=false by rw[O.h];simpa using hlt] at g2
   clear hlt
   have hF2:DepFew d (4 * (i+1)):=⟨i3.may,Nat.le_trans i3.chs (by omega),i3.last⟩
   clear i3
   obtain⟨docs,⟨base,total,chs,subs⟩,ll⟩:=d
   obtain⟨qc,qi,⟨kind,key,to,doc,want,has,n,most,ops,ods,ons⟩⟩:=q
   (repeat' first|(refine Na ?_ fun _ _=>?_;(focus lia);cbv)|(refine Ex.known O (Reqn.en O) rfl hq ?_ ?_;(focus lia);cbv)|(refine CallThen.mk _ _ (C.fn (g2)) ?_;cbv)|(refine Back.to (i+1,⟨docs,⟨base,total,chs,subs⟩,ll⟩) [] [] ?_ fun _ _=>?_;rotate_left;cbv)|(refine Nl fun _ _ hq=>?_;(try simp only [lenS] at hq);cbv)|(refine Nm fun _ _=>?_;cbv)|(refine Br.t ?_ ?_;(focus first|assumption|lia);cbv)|(refine Br.f ?_ ?_;(focus first|assumption|lia);cbv)|(refine Br.mk (fun _=>?_) (fun _=>?_)<;>cbv)|(refine Need.mk ?_ ?_;rotate_left;cbv)|(refine R0 ?_;cbv))
   all_goals try first
    | (exfalso;clear hq g2 aw hF2;lia)
    | exact⟨⟨by show i+1≤N;omega,by show i+1≤30;omega,hF2⟩,by show N-(i+1)<N-i;omega⟩
   all_goals first
    | (rename_i y ey;subst ey;(repeat' apply And.intro)<;>first|exact True.intro|exact WkR.refl _|rfl|(dsimp only;clear hq g2 aw hF2;lia)|trace_state)
    | trace_state
 ·clear i3
  (repeat' first|(refine Na ?_ fun _ _=>?_;(focus lia);cbv)|(refine CallThen.mk _ _ (C.fn (aw)) ?_;cbv)|(refine Nl fun _ _ hq=>?_;(try simp only [lenS] at hq);cbv)|(refine Nm fun _ _=>?_;cbv)|(refine Br.t ?_ ?_;(focus first|assumption|lia);cbv)|(refine Br.f ?_ ?_;(focus first|assumption|lia);cbv)|(refine Br.mk (fun _=>?_) (fun _=>?_)<;>cbv)|(refine Need.mk ?_ ?_;rotate_left;cbv)|(refine R0 ?_;cbv))
  all_goals first
   | exact⟨rfl,trivial⟩
   | (exfalso;lia)
   | trace_state
end Go.Sym
