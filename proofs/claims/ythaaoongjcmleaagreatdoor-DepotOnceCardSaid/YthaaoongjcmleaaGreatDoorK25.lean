/- A request is done: the first of a client. -/
import Derived.Test.YthaaoongjcmleaaGreatDoorK24
set_option linter.all false
set_option linter.unusedVariables false
set_option linter.unusedSimpArgs false
namespace Go.Sym
open Go Go.Proofs.Tryz
set_option maxRecDepth 100000
set_option maxHeartbeats 8000000 in
theorem dapply_new (O:Opq) (d:Depot) (q:Reqn) (h:DepIn d) (hso:SmallO q.op 1099511627) (ht:turnsB q.op.kind=true) (hc:q.client≠0) (hN:toldL d.last q.client q.id=none) (hg:getL d.last q.client=false) (D2:List Ndoc) (F2:Feed) (A2:Answer) (hT:turnR d q.op=(⟨D2,F2,d.last⟩,A2)) (hA:AnsIn A2 1099511627) :
  Fn prog 20 [.agg (d.enc O),.agg (q.en O)] [] [.agg (Depot.enc O ⟨D2,F2,putL d.last ⟨q.client,q.id,A2⟩⟩),.agg (A2.enc O),.int .i64 0] []:=by
 have G:=depGood O h
 have k1:=G.chk
 have k2:=G.own
 have k3:=dturns_fn O q.op
 rw[show O.o turnsB q.op.kind=true by rw[O.h];exact ht] at k3
 have hl8:=(lastsOk_iff.1 G.last).1
 have k4:=bsearchL_fn O d.last q.client (by omega)
 have k5:=dcount_fn O q.client
 have k6:=dcount_fn O q.id
 have k7:=dturn_fn O d q.op G.docs G.feed h.chs hso D2 F2 A2 hT
 have k8:=danswer_fn O A2 hA
 have hlen:=Lasts.len O d.last
 have hs:=(lastsOk_iff.1 G.last).2.2
 unfold toldL at hN
 have hcc:countB q.client=true∧countB q.id=true:=by
  by_cases hcc:countB q.client=true∧countB q.id=true
  ·exact hcc
  ·rw[if_pos hcc] at hN;cases hN
 rw[if_neg (fun n=>n hcc)] at hN
 obtain⟨s1,s2⟩:=seek_ok G.last hcc.1
 rw[show O.o seekZ d.last q.client=(posL d.last q.client:Int) by rw[O.h,seekZ,s1],show O.o seekB d.last q.client=getL d.last q.client by rw[O.h,s2],hg] at k4
 rw[show O.o countB q.client=true by rw[O.h];exact hcc.1] at k5
 rw[show O.o countB q.id=true by rw[O.h];exact hcc.2] at k6
 have hn8:d.last.length≠8:=fun e=>by rw[if_neg (by simp [hg]),if_neg (by simp [hg]),if_pos ⟨hg,e⟩] at hN;cases hN
 obtain⟨p,ep⟩:∃ p,p=posL d.last q.client:=⟨_,rfl⟩
 have hple:p≤d.last.length:=by rw[ep];exact posL_le _ _
 have hput:Lasts.enc O (putL d.last ⟨q.client,q.id,A2⟩)=(Lasts.enc O d.last).take p++[LastR.enc O ⟨q.client,q.id,A2⟩]++(Lasts.enc O d.last).drop p:=by
  rw[putL_ins hg,← ep,Lasts.enc,Lasts.enc,insK];simp [List.map_take,List.map_drop]
 rw[← ep] at k4
 obtain⟨W,eW⟩:∃ W,W=O.o (Lasts.enc O) (putL d.last ⟨q.client,q.id,A2⟩):=⟨_,rfl⟩
 have hW:W=(O.o (Lasts.enc O) d.last).take p++[LastR.enc O ⟨q.client,q.id,A2⟩]++(O.o (Lasts.enc O) d.last).drop p:=by rw[eW,O.h,hput]
 have k9:=insertL_fn O d.last p [.int .i64 q.client,.int .i64 0,.int .i64 0,.bool false,.nils,.nils,.nils,.int .i64 0,.int .i64 0,.nils] _ rfl (by omega) (by omega) (by omega)
 have hins:O.o insRow (O.o (Lasts.enc O) d.last) (p:Int) [.int .i64 q.client,.int .i64 0,.int .i64 0,.bool false,.nils,.nils,.nils,.int .i64 0,.int .i64 0,.nils]=(O.o (Lasts.enc O) d.last).take p++[[.int .i64 q.client,.int .i64 0,.int .i64 0,.bool false,.nils,.nils,.nils,.int .i64 0,.int .i64 0,.nils]]++(O.o (Lasts.enc O) d.last).drop p:=by simp only [O.h];rfl
 obtain⟨V,eV⟩:∃ V,V=O.o insRow (O.o (Lasts.enc O) d.last) (p:Int) [.int .i64 q.client,.int .i64 0,.int .i64 0,.bool false,.nils,.nils,.nils,.int .i64 0,.int .i64 0,.nils]:=⟨_,rfl⟩
 rw[← eV] at k9 hins
 have hpl:p≤(O.o (Lasts.enc O) d.last).length:=by rw[hlen];exact hple
 have hVl:V.length=(O.o (Lasts.enc O) d.last).length+1:=by rw[hins];simp;omega
 have goal:Fn prog 20 [.agg (d.enc O),.agg (q.en O)] [] [.agg [.sl false 0 false 2 (O.o (Nms.enc O) D2),.int .i64 F2.base,.int .i64 F2.total,.sl false 0 false 4 (O.o (Chs.enc O) F2.changes),.sl false 0 false 2 (O.o Subs.enc F2.subs),.sl false 0 false 10 W],.agg (A2.enc O),.int .i64 0] []:=by
  clear eW hput ep s1 s2 hcc hN hT hA G h hso ht hg hs hl8 eV hple
  obtain⟨docs,⟨base,total,chs,subs⟩,l⟩:=d
  obtain⟨qc,qi,⟨kind,key,to,doc,want,has,n,most,ops,ods,ons⟩⟩:=q
  obtain⟨ac,ah,ad,ads,ans,an,at',ak⟩:=A2
  obtain⟨fb,ft,fc,fs⟩:=F2
  replace hc:qc≠0:=hc
  replace hn8:l.length≠8:=hn8
  replace hlen:(O.o (Lasts.enc O) l).length=l.length:=hlen
  replace hpl:p≤(O.o (Lasts.enc O) l).length:=hpl
  replace hVl:V.length=(O.o (Lasts.enc O) l).length+1:=hVl
  replace hins:V=(O.o (Lasts.enc O) l).take p++[[.int .i64 qc,.int .i64 0,.int .i64 0,.bool false,.nils,.nils,.nils,.int .i64 0,.int .i64 0,.nils]]++(O.o (Lasts.enc O) l).drop p:=hins
  replace hW:W=(O.o (Lasts.enc O) l).take p++[LastR.enc O ⟨qc,qi,⟨ac,ah,ad,ads,ans,an,at',ak⟩⟩]++(O.o (Lasts.enc O) l).drop p:=hW
  have hpt:((O.o (Lasts.enc O) l).take p).length=p:=by rw[List.length_take];omega
  have hpV:p<V.length:=by omega
  have hset:∀ r,V.set p r=(O.o (Lasts.enc O) l).take p++[r]++(O.o (Lasts.enc O) l).drop p:=fun r=>by
   rw[hins,List.append_assoc,List.append_assoc,List.set_append,if_neg (by omega),hpt,Nat.sub_self];rfl
  have hget:V[p]?=some [.int .i64 qc,.int .i64 0,.int .i64 0,.bool false,.nils,.nils,.nils,.int .i64 0,.int .i64 0,.nils]:=by
   rw[hins,List.append_assoc,List.getElem?_append_right (by omega),hpt];simp
  clear hins
  refine goM (modeOf 50 [.own]) (fn:=Proofs.Tryz.f20) (n:=143) (rv:=[ResultVar.cell 4 47,ResultVar.cell 5 61,ResultVar.tmp 6]) rfl (by decide) rfl (by decide +kernel) rfl rfl (by simp) fun F L C=>?_
  cbv
  (repeat' first|(refine Na ?_ fun _ _=>?_;(focus lia);cbv)|(refine CallThen.mk _ _ (C.fn (k1)) ?_;cbv)|(refine CallThen.mk _ _ (C.fn (k2)) ?_;cbv)|(refine CallThen.mk _ _ (C.fn (k3)) ?_;cbv)|(refine CallThen.mk _ _ (C.fn (k4)) ?_;cbv)|(refine CallThen.mk _ _ (C.fn (k5)) ?_;cbv)|(refine CallThen.mk _ _ (C.fn (k6)) ?_;cbv)|(refine CallThen.mk _ _ (C.fn (k7)) ?_;cbv)|(refine CallThen.mk _ _ (C.fn (k8)) ?_;cbv)|(refine CallThen.mk _ _ (C.fn (k9)) ?_;cbv)|(refine Nl fun _ _ hq=>?_;(try simp only [lenS] at hq);cbv)|(refine Nm fun _ _=>?_;cbv)|(refine Br.t ?_ ?_;(focus first|assumption|lia);cbv)|(refine Br.f ?_ ?_;(focus first|assumption|lia);cbv)|(refine Br.mk (fun _=>?_) (fun _=>?_)<;>cbv)|(refine Need.mk ?_ ?_;rotate_left;cbv)|(refine R0 ?_;cbv))
  all_goals try first
   | (exfalso;clear k1 k2 k3 k4 k5 k6 k7 k8 k9 hW hset hget;lia)
  all_goals try(refine⟨Int.natCast_nonneg _,?_⟩;show(p:Int)<(V.length:Int);clear hW hset hget;omega)
  rename_i n0 e0 n1 e1
  refine Ex.at _ ⟨Int.natCast_nonneg _,(show V[n1]?=some [.int .i64 qc,.int .i64 0,.int .i64 0,.bool false,.nils,.nils,.nils,.int .i64 0,.int .i64 0,.nils] by rw[e1];exact hget)⟩ ?_
  cbv
  (repeat' first|(refine Na ?_ fun _ _=>?_;(focus lia);cbv)|(fail)|(refine Nl fun _ _ hq=>?_;(try simp only [lenS] at hq);cbv)|(refine Nm fun _ _=>?_;cbv)|(refine Br.t ?_ ?_;(focus first|assumption|lia);cbv)|(refine Br.f ?_ ?_;(focus first|assumption|lia);cbv)|(refine Br.mk (fun _=>?_) (fun _=>?_)<;>cbv)|(refine Need.mk ?_ ?_;rotate_left;cbv)|(refine R0 ?_;cbv))
  all_goals try(refine⟨Int.natCast_nonneg _,?_⟩;rename_i hq;refine Int.ofNat_lt.2 ?_;rw[hq];exact hpV)
  rename_i R eR n4 e4
  have hr:R[(Int.ofNat n4).toNat]?=some [.int .i64 qc,.int .i64 qi,.int .i64 0,.bool false,.nils,.nils,.nils,.int .i64 0,.int .i64 0,.nils]:=by
   show R[n4]?=_
   rw[e4,eR,e1,natTo,List.getElem?_set_self hpV]
   rfl
  refine Ex.at _ ⟨Int.natCast_nonneg _,hr⟩ ?_
  cbv
  (repeat' first|(refine Na ?_ fun _ _=>?_;(focus lia);cbv)|(refine RetThen.mk [] [8256] ?_;cbv)|(refine Nl fun _ _ hq=>?_;(try simp only [lenS] at hq);cbv)|(refine Nm fun _ _=>?_;cbv)|(refine Br.t ?_ ?_;(focus first|assumption|lia);cbv)|(refine Br.f ?_ ?_;(focus first|assumption|lia);cbv)|(refine Br.mk (fun _=>?_) (fun _=>?_)<;>cbv)|(refine Need.mk ?_ ?_;rotate_left;cbv)|(refine R0 ?_;cbv))
  rename_i S eS
  refine⟨.refl _,.refl _,.refl _,Named.mk fun rs er=>⟨.of_eq ?_,?_⟩⟩
  ·rw[er,eS,eR,e1,e4,natTo,List.set_set,hset,hW];rfl
  ·cbv
   (repeat' apply And.intro)<;>first|exact True.intro|exact WkR.refl _|rfl|trace_state
 rw[eW] at goal
 exact goal
set_option maxHeartbeats 8000000 in
theorem dapply_there (O:Opq) (d:Depot) (q:Reqn) (h:DepIn d) (hso:SmallO q.op 1099511627) (ht:turnsB q.op.kind=true) (hc:q.client≠0) (hN:toldL d.last q.client q.id=none) (hg:getL d.last q.client=true) (D2:List Ndoc) (F2:Feed) (A2:Answer) (hT:turnR d q.op=(⟨D2,F2,d.last⟩,A2)) (hA:AnsIn A2 1099511627) :
  Fn prog 20 [.agg (d.enc O),.agg (q.en O)] [] [.agg (Depot.enc O ⟨D2,F2,putL d.last ⟨q.client,q.id,A2⟩⟩),.agg (A2.enc O),.int .i64 0] []:=by
 have G:=depGood O h
 have k1:=G.chk
 have k2:=G.own
 have k3:=dturns_fn O q.op
 rw[show O.o turnsB q.op.kind=true by rw[O.h];exact ht] at k3
 have hl8:=(lastsOk_iff.1 G.last).1
 have k4:=bsearchL_fn O d.last q.client (by omega)
 have k5:=dcount_fn O q.client
 have k6:=dcount_fn O q.id
 have k7:=dturn_fn O d q.op G.docs G.feed h.chs hso D2 F2 A2 hT
 have k8:=danswer_fn O A2 hA
 have hlen:=Lasts.len O d.last
 have hs:=(lastsOk_iff.1 G.last).2.2
 unfold toldL at hN
 have hcc:countB q.client=true∧countB q.id=true:=by
  by_cases hcc:countB q.client=true∧countB q.id=true
  ·exact hcc
  ·rw[if_pos hcc] at hN;cases hN
 rw[if_neg (fun n=>n hcc)] at hN
 obtain⟨s1,s2⟩:=seek_ok G.last hcc.1
 rw[show O.o seekZ d.last q.client=(posL d.last q.client:Int) by rw[O.h,seekZ,s1],show O.o seekB d.last q.client=getL d.last q.client by rw[O.h,s2],hg] at k4
 rw[show O.o countB q.client=true by rw[O.h];exact hcc.1] at k5
 rw[show O.o countB q.id=true by rw[O.h];exact hcc.2] at k6
 obtain⟨x,hx,he⟩:=posL_there hs hg
 rw[hg,lastA_at hx] at hN
 have hi:x.id≠q.id:=fun e=>by rw[if_pos ⟨rfl,e⟩] at hN;cases hN
 rw[if_neg (fun k=>hi k.2)] at hN
 have hj:¬ q.id<x.id:=fun e=>by rw[if_pos ⟨rfl,e⟩] at hN;cases hN
 have hput:Lasts.enc O (putL d.last ⟨q.client,q.id,A2⟩)=(Lasts.enc O d.last).set (posL d.last q.client) (LastR.enc O ⟨q.client,q.id,A2⟩):=by
  rw[putL_set hg,Lasts.enc,Lasts.enc,List.map_set]
 obtain⟨p,ep⟩:∃ p,p=posL d.last q.client:=⟨_,rfl⟩
 rw[← ep] at hx k4 hput
 have hpl:(p:Int)<(O.o (Lasts.enc O) d.last).length:=by have:=(List.getElem?_eq_some_iff.1 hx).1;rw[hlen];omega
 obtain⟨W,eW⟩:∃ W,W=O.o (Lasts.enc O) (putL d.last ⟨q.client,q.id,A2⟩):=⟨_,rfl⟩
 have hW:W=(O.o (Lasts.enc O) d.last).set p (LastR.enc O ⟨q.client,q.id,A2⟩):=by rw[eW,O.h,hput]
 have goal:Fn prog 20 [.agg (d.enc O),.agg (q.en O)] [] [.agg [.sl false 0 false 2 (O.o (Nms.enc O) D2),.int .i64 F2.base,.int .i64 F2.total,.sl false 0 false 4 (O.o (Chs.enc O) F2.changes),.sl false 0 false 2 (O.o Subs.enc F2.subs),.sl false 0 false 10 W],.agg (A2.enc O),.int .i64 0] []:=by
  clear eW hput ep s1 s2 hcc hN hT hA G h hso ht hg hs hl8
  obtain⟨docs,⟨base,total,chs,subs⟩,l⟩:=d
  obtain⟨qc,qi,⟨kind,key,to,doc,want,has,n,most,ops,ods,ons⟩⟩:=q
  obtain⟨xc,xi,⟨yc,yh,yd,yds,yns,yn,yt,yk⟩⟩:=x
  obtain⟨ac,ah,ad,ads,ans,an,at',ak⟩:=A2
  obtain⟨fb,ft,fc,fs⟩:=F2
  replace hc:qc≠0:=hc
  replace hi:xi≠qi:=hi
  replace hj:¬ qi<xi:=hj
  replace he:xc=qc:=he
  replace hx:l[p]?=some ⟨xc,xi,⟨yc,yh,yd,yds,yns,yn,yt,yk⟩⟩:=hx
  replace hpl:(p:Int)<(O.o (Lasts.enc O) l).length:=hpl
  have hpn:p<(O.o (Lasts.enc O) l).length:=by omega
  replace hW:W=(O.o (Lasts.enc O) l).set p (LastR.enc O ⟨qc,qi,⟨ac,ah,ad,ads,ans,an,at',ak⟩⟩):=hW
  subst he
  refine goM (modeOf 50 [.own]) (fn:=Proofs.Tryz.f20) (n:=143) (rv:=[ResultVar.cell 4 47,ResultVar.cell 5 61,ResultVar.tmp 6]) rfl (by decide) rfl (by decide +kernel) rfl rfl (by simp) fun F L C=>?_
  cbv
  (repeat' first|(refine Na ?_ fun _ _=>?_;(focus lia);cbv)|(refine CallThen.mk _ _ (C.fn (k1)) ?_;cbv)|(refine CallThen.mk _ _ (C.fn (k2)) ?_;cbv)|(refine CallThen.mk _ _ (C.fn (k3)) ?_;cbv)|(refine CallThen.mk _ _ (C.fn (k4)) ?_;cbv)|(refine CallThen.mk _ _ (C.fn (k5)) ?_;cbv)|(refine CallThen.mk _ _ (C.fn (k6)) ?_;cbv)|(refine Ex.known O (LastR.enc O) rfl hx ?_ ?_;(focus lia);cbv)|(refine CallThen.mk _ _ (C.fn (k7)) ?_;cbv)|(refine CallThen.mk _ _ (C.fn (k8)) ?_;cbv)|(refine RetThen.mk [] [1472] ?_;cbv)|(refine Nl fun _ _ hq=>?_;(try simp only [lenS] at hq);cbv)|(refine Nm fun _ _=>?_;cbv)|(refine Br.t ?_ ?_;(focus first|assumption|lia);cbv)|(refine Br.f ?_ ?_;(focus first|assumption|lia);cbv)|(refine Br.mk (fun _=>?_) (fun _=>?_)<;>cbv)|(refine Need.mk ?_ ?_;rotate_left;cbv)|(refine R0 ?_;cbv))
  all_goals try first
   | (exfalso;clear k1 k2 k3 k4 k5 k6 k7 k8 hx hW;lia)
  all_goals try(refine⟨Int.natCast_nonneg _,?_⟩;first|exact hpl|(rename_i hq;rw[hq];exact hpl)|(simp only [*];exact hpl))
  rename_i n1 e1 n2 e2 n3 e3 R eR n4 e4
  have hr:R[(Int.ofNat n4).toNat]?=some [.int .i64 xc,.int .i64 qi,.int .i64 yc,.bool yh,.sl false 0 false 6 (O.o Doc.enc yd),.sl false 0 false 2 (O.o (Nms.enc O) yds),.sl false 0 false 4 (O.o (Chs.enc O) yns),.int .i64 yn,.int .i64 yt,.sl false 0 false 2 (O.o Prs.enc yk)]:=by
   show R[n4]?=_
   rw[e4,eR,e3,natTo,List.getElem?_set_self hpn]
   rfl
  refine Ex.at _ ⟨Int.natCast_nonneg _,hr⟩ ?_
  cbv
  (repeat' first|(refine Na ?_ fun _ _=>?_;(focus lia);cbv)|(refine RetThen.mk [] [1472] ?_;cbv)|(refine Nl fun _ _ hq=>?_;(try simp only [lenS] at hq);cbv)|(refine Nm fun _ _=>?_;cbv)|(refine Br.t ?_ ?_;(focus first|assumption|lia);cbv)|(refine Br.f ?_ ?_;(focus first|assumption|lia);cbv)|(refine Br.mk (fun _=>?_) (fun _=>?_)<;>cbv)|(refine Need.mk ?_ ?_;rotate_left;cbv)|(refine R0 ?_;cbv))
  rename_i S eS
  refine⟨.refl _,.refl _,.refl _,Named.mk fun rs er=>⟨.of_eq ?_,?_⟩⟩
  ·rw[er,eS,eR,e3,e4,natTo,List.set_set,hW];rfl
  ·cbv
   (repeat' apply And.intro)<;>first|exact True.intro|exact WkR.refl _|rfl|trace_state
 rw[eW] at goal
 exact goal
end Go.Sym
