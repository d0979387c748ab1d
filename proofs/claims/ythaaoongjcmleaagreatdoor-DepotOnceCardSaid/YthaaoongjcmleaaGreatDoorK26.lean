/- A request is done: one that was told before, one that is new. -/
import Derived.Test.YthaaoongjcmleaaGreatDoorK24
set_option linter.all false
set_option linter.unusedVariables false
set_option linter.unusedSimpArgs false
namespace Go.Sym
open Go Go.Proofs.Tryz
set_option maxRecDepth 100000
set_option maxHeartbeats 8000000 in
theorem dapply_told (O:Opq) (d:Depot) (q:Reqn) (h:DepIn d) (ht:turnsB q.op.kind=true) (hc:q.client≠0) (a:Answer) (hT:toldL d.last q.client q.id=some a) :
  Fn prog 20 [.agg (d.enc O),.agg (q.en O)] [] [.agg (d.enc O),.agg (a.enc O),.int .i64 0] []:=by
 have G:=depGood O h
 have k1:=G.chk
 have k2:=G.own
 have k3:=dturns_fn O q.op
 rw[show O.o turnsB q.op.kind=true by rw[O.h];exact ht] at k3
 have hl8:=(lastsOk_iff.1 G.last).1
 have k4:=bsearchL_fn O d.last q.client (by omega)
 have k5:=dcount_fn O q.client
 have k6:=dcount_fn O q.id
 have e1:O.o (Nms.enc O) []=[]:=by rw[O.h];rfl
 have e2:O.o (Chs.enc O) []=[]:=by rw[O.h];rfl
 have e3:O.o Prs.enc []=[]:=by rw[O.h];rfl
 have e4:O.o Doc.enc []=[]:=by rw[O.h];rfl
 have hlen:=Lasts.len O d.last
 have hs:=(lastsOk_iff.1 G.last).2.2
 unfold toldL at hT
 by_cases hcc:countB q.client=true∧countB q.id=true
 ·rw[if_neg (fun n=>n hcc)] at hT
  obtain⟨s1,s2⟩:=seek_ok G.last hcc.1
  rw[show O.o seekZ d.last q.client=(posL d.last q.client:Int) by rw[O.h,seekZ,s1],show O.o seekB d.last q.client=getL d.last q.client by rw[O.h,s2]] at k4
  rw[show O.o countB q.client=true by rw[O.h];exact hcc.1] at k5
  rw[show O.o countB q.id=true by rw[O.h];exact hcc.2] at k6
  cases hg:getL d.last q.client with
  | true =>
   obtain⟨x,hx,he⟩:=posL_there hs hg
   rw[hg,lastA_at hx] at hT
   rw[hg] at k4
   have k7:=danswer_fn O x.answer (h.last x (List.mem_of_getElem? hx))
   obtain⟨p,ep⟩:∃ p,p=posL d.last q.client:=⟨_,rfl⟩
   rw[← ep] at hx k4
   have hpl:(p:Int)<(O.o (Lasts.enc O) d.last).length:=by have:=(List.getElem?_eq_some_iff.1 hx).1;rw[hlen];omega
   by_cases hi:x.id=q.id
   ·rw[if_pos ⟨rfl,hi⟩] at hT
    cases hT
    clear G h ht hs s1 s2 hcc hg ep he
    obtain⟨docs,⟨base,total,chs,subs⟩,l⟩:=d
    obtain⟨qc,qi,⟨kind,key,to,doc,want,has,n,most,ops,ods,ons⟩⟩:=q
    obtain⟨xc,xi,⟨ac,ah,ad,ads,ans,an,at',ak⟩⟩:=x
    replace hi:xi=qi:=hi
    replace hc:qc≠0:=hc
    refine goM (modeOf 50 [.own]) (fn:=Proofs.Tryz.f20) (n:=143) (rv:=[ResultVar.cell 4 47,ResultVar.cell 5 61,ResultVar.tmp 6]) rfl (by decide) rfl (by decide +kernel) rfl rfl (by simp) fun F L C=>?_
    cbv
    (repeat' first|(refine Na ?_ fun _ _=>?_;(focus lia);cbv)|(refine CallThen.mk _ _ (C.fn (k1)) ?_;cbv)|(refine CallThen.mk _ _ (C.fn (k2)) ?_;cbv)|(refine CallThen.mk _ _ (C.fn (k3)) ?_;cbv)|(refine CallThen.mk _ _ (C.fn (k4)) ?_;cbv)|(refine CallThen.mk _ _ (C.fn (k5)) ?_;cbv)|(refine CallThen.mk _ _ (C.fn (k6)) ?_;cbv)|(refine Ex.known O (LastR.enc O) rfl hx ?_ ?_;(focus lia);cbv)|(refine CallThen.mk _ _ (C.fn (k7)) ?_;cbv)|(refine RetThen.mk [] [1472] ?_;cbv)|(refine Nl fun _ _ hq=>?_;(try simp only [lenS] at hq);cbv)|(refine Nm fun _ _=>?_;cbv)|(refine Br.t ?_ ?_;(focus first|assumption|lia);cbv)|(refine Br.f ?_ ?_;(focus first|assumption|lia);cbv)|(refine Br.mk (fun _=>?_) (fun _=>?_)<;>cbv)|(refine Need.mk ?_ ?_;rotate_left;cbv)|(refine R0 ?_;cbv))
    all_goals try first
     | (exfalso;clear k1 k2 k3 k4 k5 k6 hx k7;lia)
     | (clear k1 k2 k3 k4 k5 k6 hx k7;lia)
    all_goals(repeat' apply And.intro)
    all_goals first
     | exact True.intro
     | exact WkR.refl _
     | rfl
     | exact e1
     | exact e2
     | exact e3
     | exact e4
     | exact Int.natCast_nonneg _
     | exact hpl
     | (refine Nm fun _ e=>⟨.of_eq e.symm,?_⟩;cbv;(repeat' apply And.intro)<;>first|exact True.intro|exact WkR.refl _|rfl|exact e1|exact e2|exact e3|exact e4)
     | trace_state
   ·rw[if_neg (fun k=>hi k.2)] at hT
    by_cases hj:q.id<x.id
    ·rw[if_pos ⟨rfl,hj⟩] at hT
     cases hT
     clear G h ht hs s1 s2 hcc hg ep he k7
     obtain⟨docs,⟨base,total,chs,subs⟩,l⟩:=d
     obtain⟨qc,qi,⟨kind,key,to,doc,want,has,n,most,ops,ods,ons⟩⟩:=q
     obtain⟨xc,xi,⟨ac,ah,ad,ads,ans,an,at',ak⟩⟩:=x
     replace hj:qi<xi:=hj
     replace hi:¬ xi=qi:=hi
     replace hc:qc≠0:=hc
     refine goM (modeOf 50 [.own]) (fn:=Proofs.Tryz.f20) (n:=143) (rv:=[ResultVar.cell 4 47,ResultVar.cell 5 61,ResultVar.tmp 6]) rfl (by decide) rfl (by decide +kernel) rfl rfl (by simp) fun F L C=>?_
     cbv
     (repeat' first|(refine Na ?_ fun _ _=>?_;(focus lia);cbv)|(refine CallThen.mk _ _ (C.fn (k1)) ?_;cbv)|(refine CallThen.mk _ _ (C.fn (k2)) ?_;cbv)|(refine CallThen.mk _ _ (C.fn (k3)) ?_;cbv)|(refine CallThen.mk _ _ (C.fn (k4)) ?_;cbv)|(refine CallThen.mk _ _ (C.fn (k5)) ?_;cbv)|(refine CallThen.mk _ _ (C.fn (k6)) ?_;cbv)|(refine Ex.known O (LastR.enc O) rfl hx ?_ ?_;(focus lia);cbv)|(refine RetThen.mk [] [1472] ?_;cbv)|(refine Nl fun _ _ hq=>?_;(try simp only [lenS] at hq);cbv)|(refine Nm fun _ _=>?_;cbv)|(refine Br.t ?_ ?_;(focus first|assumption|lia);cbv)|(refine Br.f ?_ ?_;(focus first|assumption|lia);cbv)|(refine Br.mk (fun _=>?_) (fun _=>?_)<;>cbv)|(refine Need.mk ?_ ?_;rotate_left;cbv)|(refine R0 ?_;cbv))
     all_goals try first
      | (exfalso;clear k1 k2 k3 k4 k5 k6 hx;lia)
      | (clear k1 k2 k3 k4 k5 k6 hx;lia)
     all_goals(repeat' apply And.intro)
     all_goals first
      | exact True.intro
      | exact WkR.refl _
      | rfl
      | exact e1
      | exact e2
      | exact e3
      | exact e4
      | exact Int.natCast_nonneg _
      | exact hpl
      | (refine Nm fun _ e=>⟨.of_eq e.symm,?_⟩;cbv;(repeat' apply And.intro)<;>first|exact True.intro|exact WkR.refl _|rfl|exact e1|exact e2|exact e3|exact e4)
      | trace_state
    ·rw[if_neg (fun k=>hj k.2),if_neg (by simp)] at hT
     cases hT
  | false =>
   rw[hg] at hT k4
   rw[if_neg (by simp),if_neg (by simp)] at hT
   by_cases h8:d.last.length=8
   ·rw[if_pos ⟨rfl,h8⟩] at hT
    cases hT
    clear G h ht hs s1 s2 hcc hg
    obtain⟨docs,⟨base,total,chs,subs⟩,l⟩:=d
    obtain⟨qc,qi,⟨kind,key,to,doc,want,has,n,most,ops,ods,ons⟩⟩:=q
    replace h8:l.length=8:=h8
    replace hc:qc≠0:=hc
    replace hlen:(O.o (Lasts.enc O) l).length=l.length:=hlen
    refine goM (modeOf 50 [.own]) (fn:=Proofs.Tryz.f20) (n:=143) (rv:=[ResultVar.cell 4 47,ResultVar.cell 5 61,ResultVar.tmp 6]) rfl (by decide) rfl (by decide +kernel) rfl rfl (by simp) fun F L C=>?_
    cbv
    (repeat' first|(refine Na ?_ fun _ _=>?_;(focus lia);cbv)|(refine CallThen.mk _ _ (C.fn (k1)) ?_;cbv)|(refine CallThen.mk _ _ (C.fn (k2)) ?_;cbv)|(refine CallThen.mk _ _ (C.fn (k3)) ?_;cbv)|(refine CallThen.mk _ _ (C.fn (k4)) ?_;cbv)|(refine CallThen.mk _ _ (C.fn (k5)) ?_;cbv)|(refine CallThen.mk _ _ (C.fn (k6)) ?_;cbv)|(fail)|(refine RetThen.mk [] [1472] ?_;cbv)|(refine Nl fun _ _ hq=>?_;(try simp only [lenS] at hq);cbv)|(refine Nm fun _ _=>?_;cbv)|(refine Br.t ?_ ?_;(focus first|assumption|lia);cbv)|(refine Br.f ?_ ?_;(focus first|assumption|lia);cbv)|(refine Br.mk (fun _=>?_) (fun _=>?_)<;>cbv)|(refine Need.mk ?_ ?_;rotate_left;cbv)|(refine R0 ?_;cbv))
    all_goals try first
     | (exfalso;clear k1 k2 k3 k4 k5 k6 e1;lia)
     | (clear k1 k2 k3 k4 k5 k6 e1;lia)
    all_goals(repeat' apply And.intro)
    all_goals first
     | exact True.intro
     | exact WkR.refl _
     | rfl
     | exact e1
     | exact e2
     | exact e3
     | exact e4
     | exact Int.natCast_nonneg _
     | exact hpl
     | (refine Nm fun _ e=>⟨.of_eq e.symm,?_⟩;cbv;(repeat' apply And.intro)<;>first|exact True.intro|exact WkR.refl _|rfl|exact e1|exact e2|exact e3|exact e4)
     | trace_state
   ·rw[if_neg (fun k=>h8 k.2)] at hT
    cases hT
 ·rw[if_pos hcc] at hT
  cases hT
  have hcc:¬ (O.o countB q.client=true∧O.o countB q.id=true):=by rw[O.h];exact hcc
  obtain⟨c1,ec1⟩:∃ c,c=O.o countB q.client:=⟨_,rfl⟩
  obtain⟨c2,ec2⟩:∃ c,c=O.o countB q.id:=⟨_,rfl⟩
  obtain⟨Z,eZ⟩:∃ c,c=O.o seekZ d.last q.client:=⟨_,rfl⟩
  obtain⟨B,eB⟩:∃ c,c=O.o seekB d.last q.client:=⟨_,rfl⟩
  rw[← ec1] at k5 hcc
  rw[← ec2] at k6 hcc
  rw[← eZ,← eB] at k4
  clear G h ht hs ec1 ec2 eZ eB
  obtain⟨docs,⟨base,total,chs,subs⟩,l⟩:=d
  obtain⟨qc,qi,⟨kind,key,to,doc,want,has,n,most,ops,ods,ons⟩⟩:=q
  replace hc:qc≠0:=hc
  cases c1<;>cases c2
  all_goals try(exfalso;exact hcc ⟨rfl,rfl⟩)
  all_goals
   refine goM (modeOf 50 [.own]) (fn:=Proofs.Tryz.f20) (n:=143) (rv:=[ResultVar.cell 4 47,ResultVar.cell 5 61,ResultVar.tmp 6]) rfl (by decide) rfl (by decide +kernel) rfl rfl (by simp) fun F L C=>?_
   cbv
   (repeat' first|(refine Na ?_ fun _ _=>?_;(focus lia);cbv)|(refine CallThen.mk _ _ (C.fn (k1)) ?_;cbv)|(refine CallThen.mk _ _ (C.fn (k2)) ?_;cbv)|(refine CallThen.mk _ _ (C.fn (k3)) ?_;cbv)|(refine CallThen.mk _ _ (C.fn (k4)) ?_;cbv)|(refine CallThen.mk _ _ (C.fn (k5)) ?_;cbv)|(refine CallThen.mk _ _ (C.fn (k6)) ?_;cbv)|(fail)|(refine RetThen.mk [] [1472] ?_;cbv)|(refine Nl fun _ _ hq=>?_;(try simp only [lenS] at hq);cbv)|(refine Nm fun _ _=>?_;cbv)|(refine Br.t ?_ ?_;(focus first|assumption|lia);cbv)|(refine Br.f ?_ ?_;(focus first|assumption|lia);cbv)|(refine Br.mk (fun _=>?_) (fun _=>?_)<;>cbv)|(refine Need.mk ?_ ?_;rotate_left;cbv)|(refine R0 ?_;cbv))
   all_goals try first
    | (exfalso;clear k1 k2 k3 k4 k5 k6 hcc;lia)
    | (clear k1 k2 k3 k4 k5 k6 hcc;lia)
   all_goals(repeat' apply And.intro)
   all_goals first
    | exact True.intro
    | exact WkR.refl _
    | rfl
    | exact e1
    | exact e2
    | exact e3
    | exact e4
    | exact Int.natCast_nonneg _
    | exact hpl
    | (refine Nm fun _ e=>⟨.of_eq e.symm,?_⟩;cbv;(repeat' apply And.intro)<;>first|exact True.intro|exact WkR.refl _|rfl|exact e1|exact e2|exact e3|exact e4)
    | trace_state
end Go.Sym
