/- A depot is read, and turned. -/
import Derived.Test.YthaaoongjcmleaaGreatDoorK17
import Derived.Test.YthaaoongjcmleaaGreatDoorK19
set_option linter.all false
set_option linter.unusedVariables false
set_option linter.unusedSimpArgs false
namespace Go.Sym
open Go Go.Proofs.Tryz
set_option maxRecDepth 100000
theorem openR_err {f:Feed} {n:ByteArray} {a:Int} (h:mayF f=true) (e:openE f n a≠0):openR f n a=f:=by rw[openR,if_pos h,if_neg e]
theorem ackR_err {f:Feed} {n:ByteArray} {a:Int} (h:mayF f=true) (e:ackE f n a≠0):ackR f n a=f:=by rw[ackR,if_pos h,if_neg e]
theorem closeR_err {f:Feed} {n:ByteArray} (h:mayF f=true) (e:closeE f n≠0):closeR f n=f:=by rw[closeR,if_pos h,if_neg e]
theorem mayF_in {f:Feed} (h:mayF f=true) (hl:f.changes.length≤1000):inF f∧f.subs.length≤8∧(∀ c∈f.changes,c.doc.length≤16)∧0≤f.base∧f.base≤f.total∧f.total≤2147483647:=by
 obtain⟨⟨a1,a2,a3,a4,a5⟩,b,c⟩:=mayF_iff.1 h
 have hc:∀ c∈f.changes,inC c∧c.doc.length≤16:=fun c hc=>by
  obtain⟨i,hi,rfl⟩:=List.getElem_of_mem hc
  have:=b i f.changes[i] hi (by simp)
  refine⟨⟨by rw[this.1];omega,by rw[this.1];omega⟩,may_len this.2.2.1⟩
 exact⟨⟨by omega,by omega,fun c h=>⟨(hc c h).1,by have:=(hc c h).2;omega⟩⟩,a5,fun c h=>(hc c h).2,a1,a2,a3⟩
set_option maxHeartbeats 4000000 in
theorem dreads_fn (O:Opq) (d:Depot) (o:Opn) (hd:mayD d.docs=true) (hf:mayF d.feed=true) (hl:d.feed.changes.length≤1000) (hs:SmallO o 1099511627) :
  Fn prog 49 [.agg [.sl false 0 false 2 (O.o (Nms.enc O) d.docs),.int .i64 d.feed.base,.int .i64 d.feed.total,.sl false 0 false 4 (O.o (Chs.enc O) d.feed.changes),.sl false 0 false 2 (O.o Subs.enc d.feed.subs),.sl true 0 false 10 (O.o (Lasts.enc O) d.last)],.agg (o.en O)] [] [.agg ((O.o (readsA d) o).enc O)] []:=by
 obtain⟨i1,i2,i3,i4,i5,i6⟩:=mayF_in hf hl
 have m:=mayD_iff.1 hd
 have e1:O.o (Nms.enc O) []=[]:=by rw[O.h];rfl
 have e2:O.o (Chs.enc O) []=[]:=by rw[O.h];rfl
 have e3:O.o Prs.enc []=[]:=by rw[O.h];rfl
 have e4:O.o Doc.enc []=[]:=by rw[O.h];rfl
 obtain⟨Q,eQ⟩:∃ Q,Q=O.o (readsA d) o:=⟨_,rfl⟩
 rw[← eQ]
 rw[O.h] at eQ
 by_cases k1:o.kind=4∨o.kind=5
 ·obtain⟨R1,R2,R3,hR⟩:∃ R1 R2 R3,applyR d.docs o 0=(R1,R2,R3):=⟨_,_,_,rfl⟩
  have h1:=apply_ok O d.docs o 0 hd (by omega) hs R1 R2 R3 hR
  rw[readsA,if_pos k1,hR] at eQ
  replace eQ:Q=R2:=eQ
  subst eQ
  clear hR hd hf hl hs i1 i2 i3 i4 i5 i6 m
  obtain⟨docs,⟨base,total,chs,subs⟩,l⟩:=d
  obtain⟨kind,key,to,doc,want,has,n,most,ops,ods,ons⟩:=o
  replace k1:kind=4∨kind=5:=k1
  obtain⟨qc,qh,qd,qds,qns,qn,qt,qk⟩:=Q
  rcases k1 with rfl|rfl
  all_goals
   refine go (fn:=Proofs.Tryz.f49) (n:=81) (rv:=[ResultVar.cell 4 61]) rfl (by decide) rfl (by decide +kernel) rfl rfl (by simp) fun F L C=>?_
   cbv
   (repeat' first|(refine Na ?_ fun _ _=>?_;(focus lia);cbv)|(refine CallThen.mk _ _ (C.fn (h1)) ?_;cbv)|(refine Nl fun _ _ hq=>?_;(try simp only [lenS] at hq);cbv)|(refine Nm fun _ _=>?_;cbv)|(refine Br.t ?_ ?_;(focus first|assumption|lia);cbv)|(refine Br.f ?_ ?_;(focus first|assumption|lia);cbv)|(refine Br.mk (fun _=>?_) (fun _=>?_)<;>cbv)|(refine Need.mk ?_ ?_;rotate_left;cbv)|(refine R0 ?_;cbv))
   all_goals(repeat' apply And.intro)
   all_goals first|exact True.intro|exact WkR.refl _|rfl|trace_state
 ·rw[readsA,if_neg k1] at eQ
  have n4:o.kind≠4:=fun h=>k1 (.inl h)
  have n5:o.kind≠5:=fun h=>k1 (.inr h)
  by_cases k2:o.kind=11
  ·rw[if_pos k2] at eQ
   have h1:=read_fn O d.feed o.key o.most i1.1 i1.2.1 i1.2.2
   obtain⟨E,eE⟩:∃ x,x=O.o readE d.feed o.key o.most:=⟨_,rfl⟩
   obtain⟨A,eA⟩:∃ x,x=O.o readAt d.feed o.key o.most:=⟨_,rfl⟩
   obtain⟨R,eR⟩:∃ x,x=O.o readR d.feed o.key o.most:=⟨_,rfl⟩
   rw[← eE,← eA,← eR] at h1
   rw[O.h] at eE eA eR
   rw[← eE,← eA,← eR] at eQ
   clear eE eA eR hd hf hl hs i1 i2 i3 i4 i5 i6 m n4 n5 k1
   obtain⟨docs,⟨base,total,chs,subs⟩,l⟩:=d
   obtain⟨kind,key,to,doc,want,has,n,most,ops,ods,ons⟩:=o
   replace k2:kind=11:=k2
   subst k2
   by_cases hE:E=0
   ·rw[if_pos hE] at eQ
    subst eQ;subst hE
    refine go (fn:=Proofs.Tryz.f49) (n:=81) (rv:=[ResultVar.cell 4 61]) rfl (by decide) rfl (by decide +kernel) rfl rfl (by simp) fun F L C=>?_
    cbv
    (repeat' first|(refine Na ?_ fun _ _=>?_;(focus lia);cbv)|(refine CallThen.mk _ _ (C.fn (h1)) ?_;cbv)|(refine Nl fun _ _ hq=>?_;(try simp only [lenS] at hq);cbv)|(refine Nm fun _ _=>?_;cbv)|(refine Br.t ?_ ?_;(focus first|assumption|lia);cbv)|(refine Br.f ?_ ?_;(focus first|assumption|lia);cbv)|(refine Br.mk (fun _=>?_) (fun _=>?_)<;>cbv)|(refine Need.mk ?_ ?_;rotate_left;cbv)|(refine R0 ?_;cbv))
    all_goals(repeat' apply And.intro)
    all_goals first|exact True.intro|exact WkR.refl _|rfl|exact e1|exact e2|exact e3|exact e4|trace_state
   ·rw[if_neg hE] at eQ
    subst eQ
    refine go (fn:=Proofs.Tryz.f49) (n:=81) (rv:=[ResultVar.cell 4 61]) rfl (by decide) rfl (by decide +kernel) rfl rfl (by simp) fun F L C=>?_
    cbv
    (repeat' first|(refine Na ?_ fun _ _=>?_;(focus lia);cbv)|(refine CallThen.mk _ _ (C.fn (h1)) ?_;cbv)|(refine Nl fun _ _ hq=>?_;(try simp only [lenS] at hq);cbv)|(refine Nm fun _ _=>?_;cbv)|(refine Br.t ?_ ?_;(focus first|assumption|lia);cbv)|(refine Br.f ?_ ?_;(focus first|assumption|lia);cbv)|(refine Br.mk (fun _=>?_) (fun _=>?_)<;>cbv)|(refine Need.mk ?_ ?_;rotate_left;cbv)|(refine R0 ?_;cbv))
    all_goals(repeat' apply And.intro)
    all_goals first|exact True.intro|exact WkR.refl _|rfl|exact e1|exact e2|exact e3|exact e4|trace_state
  ·rw[if_neg k2] at eQ
   by_cases k3:o.kind=12
   ·rw[if_pos k3] at eQ
    have h1:=pull_fn O d.feed o.n o.most i1.1 i1.2.1 i1.2.2
    obtain⟨E,eE⟩:∃ x,x=O.o pullE d.feed o.n o.most:=⟨_,rfl⟩
    obtain⟨R,eR⟩:∃ x,x=O.o pullR d.feed o.n o.most:=⟨_,rfl⟩
    rw[← eE,← eR] at h1
    rw[O.h] at eE eR
    rw[← eE,← eR] at eQ
    clear eE eR hd hf hl hs i1 i2 i3 i4 i5 i6 m n4 n5 k1 k2
    obtain⟨docs,⟨base,total,chs,subs⟩,l⟩:=d
    obtain⟨kind,key,to,doc,want,has,n,most,ops,ods,ons⟩:=o
    replace k3:kind=12:=k3
    subst k3
    by_cases hE:E=0
    ·rw[if_pos hE] at eQ
     subst eQ;subst hE
     refine go (fn:=Proofs.Tryz.f49) (n:=81) (rv:=[ResultVar.cell 4 61]) rfl (by decide) rfl (by decide +kernel) rfl rfl (by simp) fun F L C=>?_
     cbv
     (repeat' first|(refine Na ?_ fun _ _=>?_;(focus lia);cbv)|(refine CallThen.mk _ _ (C.fn (h1)) ?_;cbv)|(refine Nl fun _ _ hq=>?_;(try simp only [lenS] at hq);cbv)|(refine Nm fun _ _=>?_;cbv)|(refine Br.t ?_ ?_;(focus first|assumption|lia);cbv)|(refine Br.f ?_ ?_;(focus first|assumption|lia);cbv)|(refine Br.mk (fun _=>?_) (fun _=>?_)<;>cbv)|(refine Need.mk ?_ ?_;rotate_left;cbv)|(refine R0 ?_;cbv))
     all_goals(repeat' apply And.intro)
     all_goals first|exact True.intro|exact WkR.refl _|rfl|exact e1|exact e2|exact e3|exact e4|trace_state
    ·rw[if_neg hE] at eQ
     subst eQ
     refine go (fn:=Proofs.Tryz.f49) (n:=81) (rv:=[ResultVar.cell 4 61]) rfl (by decide) rfl (by decide +kernel) rfl rfl (by simp) fun F L C=>?_
     cbv
     (repeat' first|(refine Na ?_ fun _ _=>?_;(focus lia);cbv)|(refine CallThen.mk _ _ (C.fn (h1)) ?_;cbv)|(refine Nl fun _ _ hq=>?_;(try simp only [lenS] at hq);cbv)|(refine Nm fun _ _=>?_;cbv)|(refine Br.t ?_ ?_;(focus first|assumption|lia);cbv)|(refine Br.f ?_ ?_;(focus first|assumption|lia);cbv)|(refine Br.mk (fun _=>?_) (fun _=>?_)<;>cbv)|(refine Need.mk ?_ ?_;rotate_left;cbv)|(refine R0 ?_;cbv))
     all_goals(repeat' apply And.intro)
     all_goals first|exact True.intro|exact WkR.refl _|rfl|exact e1|exact e2|exact e3|exact e4|trace_state
   ·rw[if_neg k3] at eQ
    have h1:=ddocs_fn O d.docs (by omega) (fun n hn=>by have:=may_len (m.2.1 n hn).2;omega)
    clear hd hf hl hs i1 i2 i3 i4 i5 i6 m k1
    obtain⟨docs,⟨base,total,chs,subs⟩,l⟩:=d
    obtain⟨kind,key,to,doc,want,has,n,most,ops,ods,ons⟩:=o
    replace k2:kind≠11:=k2
    replace k3:kind≠12:=k3
    replace n4:kind≠4:=n4
    replace n5:kind≠5:=n5
    by_cases k4:kind=13
    ·rw[if_pos (show Opn.kind (Opn.mk kind key to doc want has n most ops ods ons)=13 from k4)] at eQ
     subst eQ;subst k4
     refine go (fn:=Proofs.Tryz.f49) (n:=81) (rv:=[ResultVar.cell 4 61]) rfl (by decide) rfl (by decide +kernel) rfl rfl (by simp) fun F L C=>?_
     cbv
     (repeat' first|(refine Na ?_ fun _ _=>?_;(focus lia);cbv)|(refine CallThen.mk _ _ (C.fn (h1)) ?_;cbv)|(refine Nl fun _ _ hq=>?_;(try simp only [lenS] at hq);cbv)|(refine Nm fun _ _=>?_;cbv)|(refine Br.t ?_ ?_;(focus first|assumption|lia);cbv)|(refine Br.f ?_ ?_;(focus first|assumption|lia);cbv)|(refine Br.mk (fun _=>?_) (fun _=>?_)<;>cbv)|(refine Need.mk ?_ ?_;rotate_left;cbv)|(refine R0 ?_;cbv))
     all_goals(repeat' apply And.intro)
     all_goals first|exact True.intro|exact WkR.refl _|rfl|exact e1|exact e2|exact e3|exact e4|trace_state
    ·rw[if_neg (show ¬ Opn.kind (Opn.mk kind key to doc want has n most ops ods ons)=13 from k4)] at eQ
     subst eQ
     refine go (fn:=Proofs.Tryz.f49) (n:=81) (rv:=[ResultVar.cell 4 61]) rfl (by decide) rfl (by decide +kernel) rfl rfl (by simp) fun F L C=>?_
     cbv
     (repeat' first|(refine Na ?_ fun _ _=>?_;(focus lia);cbv)|(refine CallThen.mk _ _ (C.fn (h1)) ?_;cbv)|(refine Nl fun _ _ hq=>?_;(try simp only [lenS] at hq);cbv)|(refine Nm fun _ _=>?_;cbv)|(refine Br.t ?_ ?_;(focus first|assumption|lia);cbv)|(refine Br.f ?_ ?_;(focus first|assumption|lia);cbv)|(refine Br.mk (fun _=>?_) (fun _=>?_)<;>cbv)|(refine Need.mk ?_ ?_;rotate_left;cbv)|(refine R0 ?_;cbv))
     all_goals(repeat' apply And.intro)
     all_goals first|exact True.intro|exact WkR.refl _|rfl|exact e1|exact e2|exact e3|exact e4|trace_state
set_option maxHeartbeats 4000000 in
theorem dturn_fn (O:Opq) (d:Depot) (o:Opn) (hd:mayD d.docs=true) (hf:mayF d.feed=true) (hl:d.feed.changes.length≤1000) (hs:SmallO o 1099511627) (D2:List Ndoc) (F2:Feed) (A2:Answer) (hT:turnR d o=(⟨D2,F2,d.last⟩,A2)) :
  Fn prog 50 [.agg [.sl false 0 false 2 (O.o (Nms.enc O) d.docs),.int .i64 d.feed.base,.int .i64 d.feed.total,.sl false 0 false 4 (O.o (Chs.enc O) d.feed.changes),.sl false 0 false 2 (O.o Subs.enc d.feed.subs),.ref 0],.agg (o.en O)] [.arr 0 none 10 (O.o (Lasts.enc O) d.last)]
   [.agg [.sl false 0 false 2 (O.o (Nms.enc O) D2),.int .i64 F2.base,.int .i64 F2.total,.sl false 0 false 4 (O.o (Chs.enc O) F2.changes),.sl false 0 false 2 (O.o Subs.enc F2.subs),.ref 0],.agg (A2.enc O)] [.arr 0 none 10 (O.o (Lasts.enc O) d.last)]:=by
 obtain⟨i1,i2,i3,i4,i5,i6⟩:=mayF_in hf hl
 have m:=mayD_iff.1 hd
 have e1:O.o (Nms.enc O) []=[]:=by rw[O.h];rfl
 have e2:O.o (Chs.enc O) []=[]:=by rw[O.h];rfl
 have e3:O.o Prs.enc []=[]:=by rw[O.h];rfl
 have e4:O.o Doc.enc []=[]:=by rw[O.h];rfl
 rw[turnR] at hT
 by_cases k:o.kind=7
 ·rw[if_pos k] at hT
  have h1:=open_fn O d.feed o.key o.n i1
  obtain⟨E,eE⟩:∃ x,x=O.o openE d.feed o.key o.n:=⟨_,rfl⟩
  obtain⟨F,eF⟩:∃ x,x=O.o openR d.feed o.key o.n:=⟨_,rfl⟩
  have hE:E≠0→F=d.feed:=fun h=>by rw[eF,O.h];exact openR_err hf (by rw[eE,O.h] at h;exact h)
  rw[← eE,← eF] at h1
  rw[O.h] at eE eF
  rw[← eE,← eF] at hT
  clear eE eF hd hf hl hs i1 i2 i3 i4 i5 i6 m
  obtain⟨docs,⟨base,total,chs,subs⟩,l⟩:=d
  obtain⟨kind,key,to,doc,want,has,n,most,ops,ods,ons⟩:=o
  replace k:kind=7:=k
  subst k
  cases hT
  obtain⟨fb,ft,fc,fs⟩:=F2
  by_cases h0:E=0
  ·clear hE
   subst h0
   refine go (fn:=Proofs.Tryz.f50) (n:=96) (rv:=[ResultVar.cell 4 47,ResultVar.cell 5 61]) rfl (by decide) rfl (by decide +kernel) rfl rfl (by simp) fun F L C=>?_
   cbv
   (repeat' first|(refine Na ?_ fun _ _=>?_;(focus lia);cbv)|(refine CallThen.mk _ _ (C.fn (h1)) ?_;cbv)|(refine RetThen.mk [(0,.loc 0)] [] ?_;cbv)|(refine Nl fun _ _ hq=>?_;(try simp only [lenS] at hq);cbv)|(refine Nm fun _ _=>?_;cbv)|(refine Br.t ?_ ?_;(focus first|assumption|lia);cbv)|(refine Br.f ?_ ?_;(focus first|assumption|lia);cbv)|(refine Br.mk (fun _=>?_) (fun _=>?_)<;>cbv)|(refine Need.mk ?_ ?_;rotate_left;cbv)|(refine R0 ?_;cbv))
   all_goals(repeat' apply And.intro)
   all_goals first|exact True.intro|exact WkR.refl _|rfl|exact e1|exact e2|exact e3|exact e4|trace_state
  ·have hE:=hE h0
   simp only [Feed.mk.injEq] at hE
   obtain⟨rfl,rfl,rfl,rfl⟩:=hE
   refine go (fn:=Proofs.Tryz.f50) (n:=96) (rv:=[ResultVar.cell 4 47,ResultVar.cell 5 61]) rfl (by decide) rfl (by decide +kernel) rfl rfl (by simp) fun F L C=>?_
   cbv
   (repeat' first|(refine Na ?_ fun _ _=>?_;(focus lia);cbv)|(refine CallThen.mk _ _ (C.fn (h1)) ?_;cbv)|(refine RetThen.mk [(0,.loc 0)] [] ?_;cbv)|(refine Nl fun _ _ hq=>?_;(try simp only [lenS] at hq);cbv)|(refine Nm fun _ _=>?_;cbv)|(refine Br.t ?_ ?_;(focus first|assumption|lia);cbv)|(refine Br.f ?_ ?_;(focus first|assumption|lia);cbv)|(refine Br.mk (fun _=>?_) (fun _=>?_)<;>cbv)|(refine Need.mk ?_ ?_;rotate_left;cbv)|(refine R0 ?_;cbv))
   all_goals(repeat' apply And.intro)
   all_goals first|exact True.intro|exact WkR.refl _|rfl|exact e1|exact e2|exact e3|exact e4|trace_state
 rw[if_neg k] at hT
 have n7:=k
 clear k
 by_cases k:o.kind=8
 ·rw[if_pos k] at hT
  clear n7
  have h1:=ack_fn O d.feed o.key o.n i1
  obtain⟨E,eE⟩:∃ x,x=O.o ackE d.feed o.key o.n:=⟨_,rfl⟩
  obtain⟨F,eF⟩:∃ x,x=O.o ackR d.feed o.key o.n:=⟨_,rfl⟩
  have hE:E≠0→F=d.feed:=fun h=>by rw[eF,O.h];exact ackR_err hf (by rw[eE,O.h] at h;exact h)
  rw[← eE,← eF] at h1
  rw[O.h] at eE eF
  rw[← eE,← eF] at hT
  clear eE eF hd hf hl hs i1 i2 i3 i4 i5 i6 m
  obtain⟨docs,⟨base,total,chs,subs⟩,l⟩:=d
  obtain⟨kind,key,to,doc,want,has,n,most,ops,ods,ons⟩:=o
  replace k:kind=8:=k
  subst k
  cases hT
  obtain⟨fb,ft,fc,fs⟩:=F2
  by_cases h0:E=0
  ·clear hE
   subst h0
   refine go (fn:=Proofs.Tryz.f50) (n:=96) (rv:=[ResultVar.cell 4 47,ResultVar.cell 5 61]) rfl (by decide) rfl (by decide +kernel) rfl rfl (by simp) fun F L C=>?_
   cbv
   (repeat' first|(refine Na ?_ fun _ _=>?_;(focus lia);cbv)|(refine CallThen.mk _ _ (C.fn (h1)) ?_;cbv)|(refine RetThen.mk [(0,.loc 0)] [] ?_;cbv)|(refine Nl fun _ _ hq=>?_;(try simp only [lenS] at hq);cbv)|(refine Nm fun _ _=>?_;cbv)|(refine Br.t ?_ ?_;(focus first|assumption|lia);cbv)|(refine Br.f ?_ ?_;(focus first|assumption|lia);cbv)|(refine Br.mk (fun _=>?_) (fun _=>?_)<;>cbv)|(refine Need.mk ?_ ?_;rotate_left;cbv)|(refine R0 ?_;cbv))
   all_goals(repeat' apply And.intro)
   all_goals first|exact True.intro|exact WkR.refl _|rfl|exact e1|exact e2|exact e3|exact e4|trace_state
  ·have hE:=hE h0
   simp only [Feed.mk.injEq] at hE
   obtain⟨rfl,rfl,rfl,rfl⟩:=hE
   refine go (fn:=Proofs.Tryz.f50) (n:=96) (rv:=[ResultVar.cell 4 47,ResultVar.cell 5 61]) rfl (by decide) rfl (by decide +kernel) rfl rfl (by simp) fun F L C=>?_
   cbv
   (repeat' first|(refine Na ?_ fun _ _=>?_;(focus lia);cbv)|(refine CallThen.mk _ _ (C.fn (h1)) ?_;cbv)|(refine RetThen.mk [(0,.loc 0)] [] ?_;cbv)|(refine Nl fun _ _ hq=>?_;(try simp only [lenS] at hq);cbv)|(refine Nm fun _ _=>?_;cbv)|(refine Br.t ?_ ?_;(focus first|assumption|lia);cbv)|(refine Br.f ?_ ?_;(focus first|assumption|lia);cbv)|(refine Br.mk (fun _=>?_) (fun _=>?_)<;>cbv)|(refine Need.mk ?_ ?_;rotate_left;cbv)|(refine R0 ?_;cbv))
   all_goals(repeat' apply And.intro)
   all_goals first|exact True.intro|exact WkR.refl _|rfl|exact e1|exact e2|exact e3|exact e4|trace_state
 rw[if_neg k] at hT
 have n8:=k
 clear k
 by_cases k:o.kind=9
 ·rw[if_pos k] at hT
  clear n7 n8
  have h1:=close_fn O d.feed o.key i1
  obtain⟨E,eE⟩:∃ x,x=O.o closeE d.feed o.key:=⟨_,rfl⟩
  obtain⟨F,eF⟩:∃ x,x=O.o closeR d.feed o.key:=⟨_,rfl⟩
  have hE:E≠0→F=d.feed:=fun h=>by rw[eF,O.h];exact closeR_err hf (by rw[eE,O.h] at h;exact h)
  rw[← eE,← eF] at h1
  rw[O.h] at eE eF
  rw[← eE,← eF] at hT
  clear eE eF hd hf hl hs i1 i2 i3 i4 i5 i6 m
  obtain⟨docs,⟨base,total,chs,subs⟩,l⟩:=d
  obtain⟨kind,key,to,doc,want,has,n,most,ops,ods,ons⟩:=o
  replace k:kind=9:=k
  subst k
  cases hT
  obtain⟨fb,ft,fc,fs⟩:=F2
  by_cases h0:E=0
  ·clear hE
   subst h0
   refine go (fn:=Proofs.Tryz.f50) (n:=96) (rv:=[ResultVar.cell 4 47,ResultVar.cell 5 61]) rfl (by decide) rfl (by decide +kernel) rfl rfl (by simp) fun F L C=>?_
   cbv
   (repeat' first|(refine Na ?_ fun _ _=>?_;(focus lia);cbv)|(refine CallThen.mk _ _ (C.fn (h1)) ?_;cbv)|(refine RetThen.mk [(0,.loc 0)] [] ?_;cbv)|(refine Nl fun _ _ hq=>?_;(try simp only [lenS] at hq);cbv)|(refine Nm fun _ _=>?_;cbv)|(refine Br.t ?_ ?_;(focus first|assumption|lia);cbv)|(refine Br.f ?_ ?_;(focus first|assumption|lia);cbv)|(refine Br.mk (fun _=>?_) (fun _=>?_)<;>cbv)|(refine Need.mk ?_ ?_;rotate_left;cbv)|(refine R0 ?_;cbv))
   all_goals(repeat' apply And.intro)
   all_goals first|exact True.intro|exact WkR.refl _|rfl|exact e1|exact e2|exact e3|exact e4|trace_state
  ·have hE:=hE h0
   simp only [Feed.mk.injEq] at hE
   obtain⟨rfl,rfl,rfl,rfl⟩:=hE
   refine go (fn:=Proofs.Tryz.f50) (n:=96) (rv:=[ResultVar.cell 4 47,ResultVar.cell 5 61]) rfl (by decide) rfl (by decide +kernel) rfl rfl (by simp) fun F L C=>?_
   cbv
   (repeat' first|(refine Na ?_ fun _ _=>?_;(focus lia);cbv)|(refine CallThen.mk _ _ (C.fn (h1)) ?_;cbv)|(refine RetThen.mk [(0,.loc 0)] [] ?_;cbv)|(refine Nl fun _ _ hq=>?_;(try simp only [lenS] at hq);cbv)|(refine Nm fun _ _=>?_;cbv)|(refine Br.t ?_ ?_;(focus first|assumption|lia);cbv)|(refine Br.f ?_ ?_;(focus first|assumption|lia);cbv)|(refine Br.mk (fun _=>?_) (fun _=>?_)<;>cbv)|(refine Need.mk ?_ ?_;rotate_left;cbv)|(refine R0 ?_;cbv))
   all_goals(repeat' apply And.intro)
   all_goals first|exact True.intro|exact WkR.refl _|rfl|exact e1|exact e2|exact e3|exact e4|trace_state
 rw[if_neg k] at hT
 have n9:=k
 clear k
 by_cases k:o.kind=10
 ·rw[if_pos k] at hT
  clear n7 n8 n9
  have h1:=ftrim_fn O d.feed o.n i1
  rw[show O.o feedErr d.feed=0 by rw[O.h];exact feedErr_zero.2 hf] at h1
  obtain⟨F,eF⟩:∃ x,x=O.o trimR d.feed o.n:=⟨_,rfl⟩
  rw[← eF] at h1
  rw[O.h] at eF
  rw[← eF] at hT
  clear eF hd hf hl hs i1 i2 i3 i4 i5 i6 m
  obtain⟨docs,⟨base,total,chs,subs⟩,l⟩:=d
  obtain⟨kind,key,to,doc,want,has,n,most,ops,ods,ons⟩:=o
  replace k:kind=10:=k
  subst k
  cases hT
  obtain⟨fb,ft,fc,fs⟩:=F2
  refine go (fn:=Proofs.Tryz.f50) (n:=96) (rv:=[ResultVar.cell 4 47,ResultVar.cell 5 61]) rfl (by decide) rfl (by decide +kernel) rfl rfl (by simp) fun F L C=>?_
  cbv
  (repeat' first|(refine Na ?_ fun _ _=>?_;(focus lia);cbv)|(refine CallThen.mk _ _ (C.fn (h1)) ?_;cbv)|(refine RetThen.mk [(0,.loc 0)] [] ?_;cbv)|(refine Nl fun _ _ hq=>?_;(try simp only [lenS] at hq);cbv)|(refine Nm fun _ _=>?_;cbv)|(refine Br.t ?_ ?_;(focus first|assumption|lia);cbv)|(refine Br.f ?_ ?_;(focus first|assumption|lia);cbv)|(refine Br.mk (fun _=>?_) (fun _=>?_)<;>cbv)|(refine Need.mk ?_ ?_;rotate_left;cbv)|(refine R0 ?_;cbv))
  all_goals(repeat' apply And.intro)
  all_goals first|exact True.intro|exact WkR.refl _|rfl|exact e1|exact e2|exact e3|exact e4|trace_state
 rw[if_neg k] at hT
 have n10:=k
 clear k
 by_cases k:2147483639<d.feed.total
 ·rw[if_pos k] at hT
  clear hd hf hl hs i1 i2 i3 i4 i5 i6 m
  obtain⟨docs,⟨base,total,chs,subs⟩,l⟩:=d
  obtain⟨kind,key,to,doc,want,has,n,most,ops,ods,ons⟩:=o
  replace n7:¬ kind=7:=n7
  replace n8:¬ kind=8:=n8
  replace n9:¬ kind=9:=n9
  replace n10:¬ kind=10:=n10
  replace k:2147483639<total:=k
  cases hT
  refine go (fn:=Proofs.Tryz.f50) (n:=96) (rv:=[ResultVar.cell 4 47,ResultVar.cell 5 61]) rfl (by decide) rfl (by decide +kernel) rfl rfl (by simp) fun F L C=>?_
  cbv
  (repeat' first|(refine Na ?_ fun _ _=>?_;(focus lia);cbv)|(refine RetThen.mk [(0,.loc 0)] [] ?_;cbv)|(refine Nl fun _ _ hq=>?_;(try simp only [lenS] at hq);cbv)|(refine Nm fun _ _=>?_;cbv)|(refine Br.t ?_ ?_;(focus first|assumption|lia);cbv)|(refine Br.f ?_ ?_;(focus first|assumption|lia);cbv)|(refine Br.mk (fun _=>?_) (fun _=>?_)<;>cbv)|(refine Need.mk ?_ ?_;rotate_left;cbv)|(refine R0 ?_;cbv))
  all_goals(repeat' apply And.intro)
  all_goals first|exact True.intro|exact WkR.refl _|rfl|exact e1|exact e2|exact e3|exact e4|trace_state
 ·rw[if_neg k] at hT
  obtain⟨R1,R2,R3,hR⟩:∃ R1 R2 R3,applyR d.docs o d.feed.total=(R1,R2,R3):=⟨_,_,_,rfl⟩
  have h1:=apply_ok O d.docs o d.feed.total hd (by omega) hs R1 R2 R3 hR
  obtain⟨r1,r2,r3,r4,r5,r6⟩:=applyR_ok o d.feed.total hd hR
  have h2:=add_fn O d.feed R3 i1 (by omega) (fun c hc=>by
   obtain⟨j,hj,rfl⟩:=List.getElem_of_mem hc
   have:=r3 j _ (List.getElem?_eq_getElem hj)
   have:=may_len (r4 _ hc).2.1
   exact⟨⟨by omega,by omega⟩,by omega⟩)
  rw[show O.o addE d.feed R3=0 by rw[O.h];exact(add_ok hf r3 r4 (by omega)).1] at h2
  obtain⟨F,eF⟩:∃ x,x=O.o addR d.feed R3:=⟨_,rfl⟩
  rw[← eF] at h2
  rw[O.h] at eF
  rw[hR] at hT
  replace hT:((⟨R1,addR d.feed R3,d.last⟩:Depot),R2)=(⟨D2,F2,d.last⟩,A2):=hT
  rw[← eF] at hT
  clear eF hR hd hf hl hs i1 i2 i3 i4 i5 i6 m r1 r2 r3 r4 r5 r6
  obtain⟨docs,⟨base,total,chs,subs⟩,l⟩:=d
  obtain⟨kind,key,to,doc,want,has,n,most,ops,ods,ons⟩:=o
  replace n7:¬ kind=7:=n7
  replace n8:¬ kind=8:=n8
  replace n9:¬ kind=9:=n9
  replace n10:¬ kind=10:=n10
  replace k:¬ 2147483639<total:=k
  cases hT
  obtain⟨fb,ft,fc,fs⟩:=F2
  obtain⟨qc,qh,qd,qds,qns,qn,qt,qk⟩:=A2
  refine go (fn:=Proofs.Tryz.f50) (n:=96) (rv:=[ResultVar.cell 4 47,ResultVar.cell 5 61]) rfl (by decide) rfl (by decide +kernel) rfl rfl (by simp) fun F L C=>?_
  cbv
  (repeat' first|(refine Na ?_ fun _ _=>?_;(focus lia);cbv)|(refine CallThen.mk _ _ (C.fn (h1)) ?_;cbv)|(refine CallThen.mk _ _ (C.fn (h2)) ?_;cbv)|(refine RetThen.mk [(0,.loc 0)] [] ?_;cbv)|(refine Nl fun _ _ hq=>?_;(try simp only [lenS] at hq);cbv)|(refine Nm fun _ _=>?_;cbv)|(refine Br.t ?_ ?_;(focus first|assumption|lia);cbv)|(refine Br.f ?_ ?_;(focus first|assumption|lia);cbv)|(refine Br.mk (fun _=>?_) (fun _=>?_)<;>cbv)|(refine Need.mk ?_ ?_;rotate_left;cbv)|(refine R0 ?_;cbv))
  all_goals(repeat' apply And.intro)
  all_goals first|exact True.intro|exact WkR.refl _|rfl|exact e1|exact e2|exact e3|exact e4|trace_state
end Go.Sym
