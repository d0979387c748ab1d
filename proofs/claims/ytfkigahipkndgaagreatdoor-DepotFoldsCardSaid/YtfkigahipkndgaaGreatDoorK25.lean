/- A depot is read, and turned, by the document. -/
import Derived.Test.YtfkigahipkndgaaGreatDoorK21
import Derived.Test.YtfkigahipkndgaaGreatDoorK23
import Derived.Test.YtfkigahipkndgaaGreatDoorK24
set_option linter.all false
set_option linter.unusedVariables false
set_option linter.unusedSimpArgs false
namespace Go.Sym
open Go Go.Proofs.Tryz
set_option maxRecDepth 100000
theorem coded_fn (O:Opq) (e:Int):Fn prog 94 [.int .i64 e] [] [.agg ((refA e).enc O)] []:=by
 have e1:O.o (Nms.enc O) []=[]:=by rw[O.h];rfl
 have e2:O.o (Chs.enc O) []=[]:=by rw[O.h];rfl
 have e3:O.o Prs.enc []=[]:=by rw[O.h];rfl
 have e4:O.o Doc.enc []=[]:=by rw[O.h];rfl
 refine go (fn:=Proofs.Tryz.f94) (n:=4) (rv:=[ResultVar.cell 2 37]) rfl (by decide) rfl (by decide +kernel) rfl rfl (by simp) fun F L C=>?_
 cbv
 (repeat' first|(refine Na ?_ fun _ _=>?_;(focus lia);cbv)|(refine Nl fun _ _ hq=>?_;(try simp only [lenS] at hq);cbv)|(refine Nm fun _ _=>?_;cbv)|(refine Br.t ?_ ?_;(focus first|assumption|lia);cbv)|(refine Br.f ?_ ?_;(focus first|assumption|lia);cbv)|(refine Br.mk (fun _=>?_) (fun _=>?_)<;>cbv)|(refine Need.mk ?_ ?_;rotate_left;cbv)|(refine R0 ?_;cbv))
 all_goals(repeat' apply And.intro)
 all_goals first|exact True.intro|exact WkR.refl _|rfl|exact e1|exact e2|exact e3|exact e4|trace_state
set_option maxHeartbeats 4000000 in
theorem rdreads_fn (O:Opq) (d:Depot) (o:Opn) (hd:mayD d.docs=true) (hf:mayF d.feed=true) (hl:d.feed.changes.length≤1000) (hs:SmallO o 1099511627) (hp:PathsO o) :
  Fn prog 92 [.agg (d.enc O),.agg (o.en O)] [] [.agg ((O.o (readsA d) o).enc O)] []:=by
 obtain⟨i1,i2,i3,i4,i5,i6⟩:=mayF_in hf hl
 have m:=mayD_iff.1 hd
 have e1:O.o (Nms.enc O) []=[]:=by rw[O.h];rfl
 have e2:O.o (Chs.enc O) []=[]:=by rw[O.h];rfl
 have e3:O.o Prs.enc []=[]:=by rw[O.h];rfl
 have e4:O.o Doc.enc []=[]:=by rw[O.h];rfl
 obtain⟨Q,eQ⟩:∃ Q,Q=O.o (readsA d) o:=⟨_,rfl⟩
 rw[← eQ]
 rw[O.h] at eQ
 by_cases k1:o.kind=4∨o.kind=5
 ·obtain⟨R1,R2,R3,hR⟩:∃ R1 R2 R3,applyR d.docs o 0=(R1,R2,R3):=⟨_,_,_,rfl⟩
  have h1:=rapply_ok O d.docs o 0 hd (by omega) hs ⟨hp.doc,hp.want,hp.list⟩ R1 R2 R3 hR
  rw[readsA,if_pos k1,hR] at eQ
  replace eQ:Q=R2:=eQ
  subst eQ
  clear hR hd hf hl hs i1 i2 i3 i4 i5 i6 m
  obtain⟨docs,⟨base,total,chs,subs⟩,l⟩:=d
  obtain⟨kind,key,to,doc,want,has,n,most,ops,ods,ons⟩:=o
  replace k1:kind=4∨kind=5:=k1
  obtain⟨qc,qh,qd,qds,qns,qn,qt,qk⟩:=Q
  rcases k1 with rfl|rfl
  all_goals
   refine go (fn:=Proofs.Tryz.f92) (n:=78) (rv:=[ResultVar.cell 4 37]) rfl (by decide) rfl (by decide +kernel) rfl rfl (by simp) fun F L C=>?_
   cbv
   (repeat' first|(refine Na ?_ fun _ _=>?_;(focus lia);cbv)|(refine CallThen.mk _ _ (C.fn (h1)) ?_;cbv)|(refine CallThen.mk _ _ (C.fn (coded_fn O _)) ?_;cbv)|(refine Nl fun _ _ hq=>?_;(try simp only [lenS] at hq);cbv)|(refine Nm fun _ _=>?_;cbv)|(refine Br.t ?_ ?_;(focus first|assumption|lia);cbv)|(refine Br.f ?_ ?_;(focus first|assumption|lia);cbv)|(refine Br.mk (fun _=>?_) (fun _=>?_)<;>cbv)|(refine Need.mk ?_ ?_;rotate_left;cbv)|(refine R0 ?_;cbv))
   all_goals(repeat' apply And.intro)
   all_goals first|exact True.intro|exact WkR.refl _|rfl|trace_state
 ·rw[readsA,if_neg k1] at eQ
  have n4:o.kind≠4:=fun h=>k1 (.inl h)
  have n5:o.kind≠5:=fun h=>k1 (.inr h)
  by_cases k2:o.kind=11
  ·rw[if_pos k2] at eQ
   have h1:=rread_fn O d.feed o.key o.most hf
   obtain⟨E,eE⟩:∃ x,x=O.o readE d.feed o.key o.most:=⟨_,rfl⟩
   obtain⟨A,eA⟩:∃ x,x=O.o readAt d.feed o.key o.most:=⟨_,rfl⟩
   obtain⟨R,eR⟩:∃ x,x=O.o readR d.feed o.key o.most:=⟨_,rfl⟩
   rw[← eE,← eA,← eR] at h1
   rw[O.h] at eE eA eR
   rw[← eE,← eA,← eR] at eQ
   clear eE eA eR hd hf hl hs i1 i2 i3 i4 i5 i6 m n4 n5 k1
   obtain⟨docs,⟨base,total,chs,subs⟩,l⟩:=d
   obtain⟨kind,key,to,doc,want,has,n,most,ops,ods,ons⟩:=o
   replace k2:kind=11:=k2
   subst k2
   by_cases hE:E=0
   ·rw[if_pos hE] at eQ
    subst eQ;subst hE
    refine go (fn:=Proofs.Tryz.f92) (n:=78) (rv:=[ResultVar.cell 4 37]) rfl (by decide) rfl (by decide +kernel) rfl rfl (by simp) fun F L C=>?_
    cbv
    (repeat' first|(refine Na ?_ fun _ _=>?_;(focus lia);cbv)|(refine CallThen.mk _ _ (C.fn (h1)) ?_;cbv)|(refine CallThen.mk _ _ (C.fn (coded_fn O _)) ?_;cbv)|(refine Nl fun _ _ hq=>?_;(try simp only [lenS] at hq);cbv)|(refine Nm fun _ _=>?_;cbv)|(refine Br.t ?_ ?_;(focus first|assumption|lia);cbv)|(refine Br.f ?_ ?_;(focus first|assumption|lia);cbv)|(refine Br.mk (fun _=>?_) (fun _=>?_)<;>cbv)|(refine Need.mk ?_ ?_;rotate_left;cbv)|(refine R0 ?_;cbv))
    all_goals(repeat' apply And.intro)
    all_goals first|exact True.intro|exact WkR.refl _|rfl|exact e1|exact e2|exact e3|exact e4|trace_state
   ·rw[if_neg hE] at eQ
    subst eQ
    refine go (fn:=Proofs.Tryz.f92) (n:=78) (rv:=[ResultVar.cell 4 37]) rfl (by decide) rfl (by decide +kernel) rfl rfl (by simp) fun F L C=>?_
    cbv
    (repeat' first|(refine Na ?_ fun _ _=>?_;(focus lia);cbv)|(refine CallThen.mk _ _ (C.fn (h1)) ?_;cbv)|(refine CallThen.mk _ _ (C.fn (coded_fn O _)) ?_;cbv)|(refine Nl fun _ _ hq=>?_;(try simp only [lenS] at hq);cbv)|(refine Nm fun _ _=>?_;cbv)|(refine Br.t ?_ ?_;(focus first|assumption|lia);cbv)|(refine Br.f ?_ ?_;(focus first|assumption|lia);cbv)|(refine Br.mk (fun _=>?_) (fun _=>?_)<;>cbv)|(refine Need.mk ?_ ?_;rotate_left;cbv)|(refine R0 ?_;cbv))
    all_goals(repeat' apply And.intro)
    all_goals first|exact True.intro|exact WkR.refl _|rfl|exact e1|exact e2|exact e3|exact e4|trace_state
  ·rw[if_neg k2] at eQ
   by_cases k3:o.kind=12
   ·rw[if_pos k3] at eQ
    have h1:=rpull_fn O d.feed o.n o.most hf
    obtain⟨E,eE⟩:∃ x,x=O.o pullE d.feed o.n o.most:=⟨_,rfl⟩
    obtain⟨R,eR⟩:∃ x,x=O.o pullR d.feed o.n o.most:=⟨_,rfl⟩
    rw[← eE,← eR] at h1
    rw[O.h] at eE eR
    rw[← eE,← eR] at eQ
    clear eE eR hd hf hl hs i1 i2 i3 i4 i5 i6 m n4 n5 k1 k2
    obtain⟨docs,⟨base,total,chs,subs⟩,l⟩:=d
    obtain⟨kind,key,to,doc,want,has,n,most,ops,ods,ons⟩:=o
    replace k3:kind=12:=k3
    subst k3
    by_cases hE:E=0
    ·rw[if_pos hE] at eQ
     subst eQ;subst hE
     refine go (fn:=Proofs.Tryz.f92) (n:=78) (rv:=[ResultVar.cell 4 37]) rfl (by decide) rfl (by decide +kernel) rfl rfl (by simp) fun F L C=>?_
     cbv
     (repeat' first|(refine Na ?_ fun _ _=>?_;(focus lia);cbv)|(refine CallThen.mk _ _ (C.fn (h1)) ?_;cbv)|(refine CallThen.mk _ _ (C.fn (coded_fn O _)) ?_;cbv)|(refine Nl fun _ _ hq=>?_;(try simp only [lenS] at hq);cbv)|(refine Nm fun _ _=>?_;cbv)|(refine Br.t ?_ ?_;(focus first|assumption|lia);cbv)|(refine Br.f ?_ ?_;(focus first|assumption|lia);cbv)|(refine Br.mk (fun _=>?_) (fun _=>?_)<;>cbv)|(refine Need.mk ?_ ?_;rotate_left;cbv)|(refine R0 ?_;cbv))
     all_goals(repeat' apply And.intro)
     all_goals first|exact True.intro|exact WkR.refl _|rfl|exact e1|exact e2|exact e3|exact e4|trace_state
    ·rw[if_neg hE] at eQ
     subst eQ
     refine go (fn:=Proofs.Tryz.f92) (n:=78) (rv:=[ResultVar.cell 4 37]) rfl (by decide) rfl (by decide +kernel) rfl rfl (by simp) fun F L C=>?_
     cbv
     (repeat' first|(refine Na ?_ fun _ _=>?_;(focus lia);cbv)|(refine CallThen.mk _ _ (C.fn (h1)) ?_;cbv)|(refine CallThen.mk _ _ (C.fn (coded_fn O _)) ?_;cbv)|(refine Nl fun _ _ hq=>?_;(try simp only [lenS] at hq);cbv)|(refine Nm fun _ _=>?_;cbv)|(refine Br.t ?_ ?_;(focus first|assumption|lia);cbv)|(refine Br.f ?_ ?_;(focus first|assumption|lia);cbv)|(refine Br.mk (fun _=>?_) (fun _=>?_)<;>cbv)|(refine Need.mk ?_ ?_;rotate_left;cbv)|(refine R0 ?_;cbv))
     all_goals(repeat' apply And.intro)
     all_goals first|exact True.intro|exact WkR.refl _|rfl|exact e1|exact e2|exact e3|exact e4|trace_state
   ·rw[if_neg k3] at eQ
    clear hd hf hl hs hp i1 i2 i3 i4 i5 i6 m k1
    obtain⟨docs,⟨base,total,chs,subs⟩,l⟩:=d
    obtain⟨kind,key,to,doc,want,has,n,most,ops,ods,ons⟩:=o
    replace k2:kind≠11:=k2
    replace k3:kind≠12:=k3
    replace n4:kind≠4:=n4
    replace n5:kind≠5:=n5
    by_cases k4:kind=13
    ·rw[if_pos (show Opn.kind (Opn.mk kind key to doc want has n most ops ods ons)=13 from k4)] at eQ
     subst eQ;subst k4
     refine go (fn:=Proofs.Tryz.f92) (n:=78) (rv:=[ResultVar.cell 4 37]) rfl (by decide) rfl (by decide +kernel) rfl rfl (by simp) fun F L C=>?_
     cbv
     (repeat' first|(refine Na ?_ fun _ _=>?_;(focus lia);cbv)|(refine CallThen.mk _ _ (C.fn (coded_fn O _)) ?_;cbv)|(refine Nl fun _ _ hq=>?_;(try simp only [lenS] at hq);cbv)|(refine Nm fun _ _=>?_;cbv)|(refine Br.t ?_ ?_;(focus first|assumption|lia);cbv)|(refine Br.f ?_ ?_;(focus first|assumption|lia);cbv)|(refine Br.mk (fun _=>?_) (fun _=>?_)<;>cbv)|(refine Need.mk ?_ ?_;rotate_left;cbv)|(refine R0 ?_;cbv))
     all_goals(repeat' apply And.intro)
     all_goals first|exact True.intro|exact WkR.refl _|rfl|exact e1|exact e2|exact e3|exact e4|trace_state
    ·rw[if_neg (show ¬ Opn.kind (Opn.mk kind key to doc want has n most ops ods ons)=13 from k4)] at eQ
     subst eQ
     refine go (fn:=Proofs.Tryz.f92) (n:=78) (rv:=[ResultVar.cell 4 37]) rfl (by decide) rfl (by decide +kernel) rfl rfl (by simp) fun F L C=>?_
     cbv
     (repeat' first|(refine Na ?_ fun _ _=>?_;(focus lia);cbv)|(refine CallThen.mk _ _ (C.fn (coded_fn O _)) ?_;cbv)|(refine Nl fun _ _ hq=>?_;(try simp only [lenS] at hq);cbv)|(refine Nm fun _ _=>?_;cbv)|(refine Br.t ?_ ?_;(focus first|assumption|lia);cbv)|(refine Br.f ?_ ?_;(focus first|assumption|lia);cbv)|(refine Br.mk (fun _=>?_) (fun _=>?_)<;>cbv)|(refine Need.mk ?_ ?_;rotate_left;cbv)|(refine R0 ?_;cbv))
     all_goals(repeat' apply And.intro)
     all_goals first|exact True.intro|exact WkR.refl _|rfl|exact e1|exact e2|exact e3|exact e4|trace_state
set_option maxHeartbeats 4000000 in
theorem rdturn_fn (O:Opq) (d:Depot) (o:Opn) (hd:mayD d.docs=true) (hf:mayF d.feed=true) (hl:d.feed.changes.length≤1000) (hs:SmallO o 1099511627) (hp:PathsO o) (D2:List Ndoc) (F2:Feed) (A2:Answer) (hT:turnR d o=(⟨D2,F2,d.last⟩,A2)) :
  Fn prog 93 [.agg (d.enc O),.agg (o.en O)] [] [.agg (Depot.enc O ⟨D2,F2,d.last⟩),.agg (A2.enc O)] []:=by
 obtain⟨i1,i2,i3,i4,i5,i6⟩:=mayF_in hf hl
 have m:=mayD_iff.1 hd
 have e1:O.o (Nms.enc O) []=[]:=by rw[O.h];rfl
 have e2:O.o (Chs.enc O) []=[]:=by rw[O.h];rfl
 have e3:O.o Prs.enc []=[]:=by rw[O.h];rfl
 have e4:O.o Doc.enc []=[]:=by rw[O.h];rfl
 rw[turnR] at hT
 by_cases k:o.kind=7
 ·rw[if_pos k] at hT
  have h1:=ropen_fn O d.feed o.key o.n hf
  obtain⟨E,eE⟩:∃ x,x=O.o openE d.feed o.key o.n:=⟨_,rfl⟩
  obtain⟨F,eF⟩:∃ x,x=O.o openR d.feed o.key o.n:=⟨_,rfl⟩
  have hE:E≠0→F=d.feed:=fun h=>by rw[eF,O.h];exact openR_err hf (by rw[eE,O.h] at h;exact h)
  rw[← eE,← eF] at h1
  rw[O.h] at eE eF
  rw[← eE,← eF] at hT
  clear eE eF hd hf hl hs hp i1 i2 i3 i4 i5 i6 m
  obtain⟨docs,⟨base,total,chs,subs⟩,l⟩:=d
  obtain⟨kind,key,to,doc,want,has,n,most,ops,ods,ons⟩:=o
  replace k:kind=7:=k
  subst k
  cases hT
  obtain⟨fb,ft,fc,fs⟩:=F2
  by_cases h0:E=0
  ·clear hE
   subst h0
   refine go (fn:=Proofs.Tryz.f93) (n:=95) (rv:=[ResultVar.cell 4 65,ResultVar.cell 5 37]) rfl (by decide) rfl (by decide +kernel) rfl rfl (by simp) fun F L C=>?_
   cbv
   (repeat' first|(refine Na ?_ fun _ _=>?_;(focus lia);cbv)|(refine CallThen.mk _ _ (C.fn (h1)) ?_;cbv)|(refine CallThen.mk _ _ (C.fn (coded_fn O _)) ?_;cbv)|(refine Nl fun _ _ hq=>?_;(try simp only [lenS] at hq);cbv)|(refine Nm fun _ _=>?_;cbv)|(refine Br.t ?_ ?_;(focus first|assumption|lia);cbv)|(refine Br.f ?_ ?_;(focus first|assumption|lia);cbv)|(refine Br.mk (fun _=>?_) (fun _=>?_)<;>cbv)|(refine Need.mk ?_ ?_;rotate_left;cbv)|(refine R0 ?_;cbv))
   all_goals(repeat' apply And.intro)
   all_goals first|exact True.intro|exact WkR.refl _|rfl|exact e1|exact e2|exact e3|exact e4|trace_state
  ·have hE:=hE h0
   simp only [Feed.mk.injEq] at hE
   obtain⟨rfl,rfl,rfl,rfl⟩:=hE
   refine go (fn:=Proofs.Tryz.f93) (n:=95) (rv:=[ResultVar.cell 4 65,ResultVar.cell 5 37]) rfl (by decide) rfl (by decide +kernel) rfl rfl (by simp) fun F L C=>?_
   cbv
   (repeat' first|(refine Na ?_ fun _ _=>?_;(focus lia);cbv)|(refine CallThen.mk _ _ (C.fn (h1)) ?_;cbv)|(refine CallThen.mk _ _ (C.fn (coded_fn O _)) ?_;cbv)|(refine Nl fun _ _ hq=>?_;(try simp only [lenS] at hq);cbv)|(refine Nm fun _ _=>?_;cbv)|(refine Br.t ?_ ?_;(focus first|assumption|lia);cbv)|(refine Br.f ?_ ?_;(focus first|assumption|lia);cbv)|(refine Br.mk (fun _=>?_) (fun _=>?_)<;>cbv)|(refine Need.mk ?_ ?_;rotate_left;cbv)|(refine R0 ?_;cbv))
   all_goals(repeat' apply And.intro)
   all_goals first|exact True.intro|exact WkR.refl _|rfl|exact e1|exact e2|exact e3|exact e4|trace_state
 rw[if_neg k] at hT
 have n7:=k
 clear k
 by_cases k:o.kind=8
 ·rw[if_pos k] at hT
  clear n7
  have h1:=rack_fn O d.feed o.key o.n hf
  obtain⟨E,eE⟩:∃ x,x=O.o ackE d.feed o.key o.n:=⟨_,rfl⟩
  obtain⟨F,eF⟩:∃ x,x=O.o ackR d.feed o.key o.n:=⟨_,rfl⟩
  have hE:E≠0→F=d.feed:=fun h=>by rw[eF,O.h];exact ackR_err hf (by rw[eE,O.h] at h;exact h)
  rw[← eE,← eF] at h1
  rw[O.h] at eE eF
  rw[← eE,← eF] at hT
  clear eE eF hd hf hl hs hp i1 i2 i3 i4 i5 i6 m
  obtain⟨docs,⟨base,total,chs,subs⟩,l⟩:=d
  obtain⟨kind,key,to,doc,want,has,n,most,ops,ods,ons⟩:=o
  replace k:kind=8:=k
  subst k
  cases hT
  obtain⟨fb,ft,fc,fs⟩:=F2
  by_cases h0:E=0
  ·clear hE
   subst h0
   refine go (fn:=Proofs.Tryz.f93) (n:=95) (rv:=[ResultVar.cell 4 65,ResultVar.cell 5 37]) rfl (by decide) rfl (by decide +kernel) rfl rfl (by simp) fun F L C=>?_
   cbv
   (repeat' first|(refine Na ?_ fun _ _=>?_;(focus lia);cbv)|(refine CallThen.mk _ _ (C.fn (h1)) ?_;cbv)|(refine CallThen.mk _ _ (C.fn (coded_fn O _)) ?_;cbv)|(refine Nl fun _ _ hq=>?_;(try simp only [lenS] at hq);cbv)|(refine Nm fun _ _=>?_;cbv)|(refine Br.t ?_ ?_;(focus first|assumption|lia);cbv)|(refine Br.f ?_ ?_;(focus first|assumption|lia);cbv)|(refine Br.mk (fun _=>?_) (fun _=>?_)<;>cbv)|(refine Need.mk ?_ ?_;rotate_left;cbv)|(refine R0 ?_;cbv))
   all_goals(repeat' apply And.intro)
   all_goals first|exact True.intro|exact WkR.refl _|rfl|exact e1|exact e2|exact e3|exact e4|trace_state
  ·have hE:=hE h0
   simp only [Feed.mk.injEq] at hE
   obtain⟨rfl,rfl,rfl,rfl⟩:=hE
   refine go (fn:=Proofs.Tryz.f93) (n:=95) (rv:=[ResultVar.cell 4 65,ResultVar.cell 5 37]) rfl (by decide) rfl (by decide +kernel) rfl rfl (by simp) fun F L C=>?_
   cbv
   (repeat' first|(refine Na ?_ fun _ _=>?_;(focus lia);cbv)|(refine CallThen.mk _ _ (C.fn (h1)) ?_;cbv)|(refine CallThen.mk _ _ (C.fn (coded_fn O _)) ?_;cbv)|(refine Nl fun _ _ hq=>?_;(try simp only [lenS] at hq);cbv)|(refine Nm fun _ _=>?_;cbv)|(refine Br.t ?_ ?_;(focus first|assumption|lia);cbv)|(refine Br.f ?_ ?_;(focus first|assumption|lia);cbv)|(refine Br.mk (fun _=>?_) (fun _=>?_)<;>cbv)|(refine Need.mk ?_ ?_;rotate_left;cbv)|(refine R0 ?_;cbv))
   all_goals(repeat' apply And.intro)
   all_goals first|exact True.intro|exact WkR.refl _|rfl|exact e1|exact e2|exact e3|exact e4|trace_state
 rw[if_neg k] at hT
 have n8:=k
 clear k
 by_cases k:o.kind=9
 ·rw[if_pos k] at hT
  clear n7 n8
  have h1:=rclose_fn O d.feed o.key hf
  obtain⟨E,eE⟩:∃ x,x=O.o closeE d.feed o.key:=⟨_,rfl⟩
  obtain⟨F,eF⟩:∃ x,x=O.o closeR d.feed o.key:=⟨_,rfl⟩
  have hE:E≠0→F=d.feed:=fun h=>by rw[eF,O.h];exact closeR_err hf (by rw[eE,O.h] at h;exact h)
  rw[← eE,← eF] at h1
  rw[O.h] at eE eF
  rw[← eE,← eF] at hT
  clear eE eF hd hf hl hs hp i1 i2 i3 i4 i5 i6 m
  obtain⟨docs,⟨base,total,chs,subs⟩,l⟩:=d
  obtain⟨kind,key,to,doc,want,has,n,most,ops,ods,ons⟩:=o
  replace k:kind=9:=k
  subst k
  cases hT
  obtain⟨fb,ft,fc,fs⟩:=F2
  by_cases h0:E=0
  ·clear hE
   subst h0
   refine go (fn:=Proofs.Tryz.f93) (n:=95) (rv:=[ResultVar.cell 4 65,ResultVar.cell 5 37]) rfl (by decide) rfl (by decide +kernel) rfl rfl (by simp) fun F L C=>?_
   cbv
   (repeat' first|(refine Na ?_ fun _ _=>?_;(focus lia);cbv)|(refine CallThen.mk _ _ (C.fn (h1)) ?_;cbv)|(refine CallThen.mk _ _ (C.fn (coded_fn O _)) ?_;cbv)|(refine Nl fun _ _ hq=>?_;(try simp only [lenS] at hq);cbv)|(refine Nm fun _ _=>?_;cbv)|(refine Br.t ?_ ?_;(focus first|assumption|lia);cbv)|(refine Br.f ?_ ?_;(focus first|assumption|lia);cbv)|(refine Br.mk (fun _=>?_) (fun _=>?_)<;>cbv)|(refine Need.mk ?_ ?_;rotate_left;cbv)|(refine R0 ?_;cbv))
   all_goals(repeat' apply And.intro)
   all_goals first|exact True.intro|exact WkR.refl _|rfl|exact e1|exact e2|exact e3|exact e4|trace_state
  ·have hE:=hE h0
   simp only [Feed.mk.injEq] at hE
   obtain⟨rfl,rfl,rfl,rfl⟩:=hE
   refine go (fn:=Proofs.Tryz.f93) (n:=95) (rv:=[ResultVar.cell 4 65,ResultVar.cell 5 37]) rfl (by decide) rfl (by decide +kernel) rfl rfl (by simp) fun F L C=>?_
   cbv
   (repeat' first|(refine Na ?_ fun _ _=>?_;(focus lia);cbv)|(refine CallThen.mk _ _ (C.fn (h1)) ?_;cbv)|(refine CallThen.mk _ _ (C.fn (coded_fn O _)) ?_;cbv)|(refine Nl fun _ _ hq=>?_;(try simp only [lenS] at hq);cbv)|(refine Nm fun _ _=>?_;cbv)|(refine Br.t ?_ ?_;(focus first|assumption|lia);cbv)|(refine Br.f ?_ ?_;(focus first|assumption|lia);cbv)|(refine Br.mk (fun _=>?_) (fun _=>?_)<;>cbv)|(refine Need.mk ?_ ?_;rotate_left;cbv)|(refine R0 ?_;cbv))
   all_goals(repeat' apply And.intro)
   all_goals first|exact True.intro|exact WkR.refl _|rfl|exact e1|exact e2|exact e3|exact e4|trace_state
 rw[if_neg k] at hT
 have n9:=k
 clear k
 by_cases k:o.kind=10
 ·rw[if_pos k] at hT
  clear n7 n8 n9
  have h1:=rtrim_fn O d.feed o.n hf i1.1
  obtain⟨F,eF⟩:∃ x,x=O.o trimR d.feed o.n:=⟨_,rfl⟩
  rw[← eF] at h1
  rw[O.h] at eF
  rw[← eF] at hT
  clear eF hd hf hl hs hp i1 i2 i3 i4 i5 i6 m
  obtain⟨docs,⟨base,total,chs,subs⟩,l⟩:=d
  obtain⟨kind,key,to,doc,want,has,n,most,ops,ods,ons⟩:=o
  replace k:kind=10:=k
  subst k
  cases hT
  obtain⟨fb,ft,fc,fs⟩:=F2
  refine go (fn:=Proofs.Tryz.f93) (n:=95) (rv:=[ResultVar.cell 4 65,ResultVar.cell 5 37]) rfl (by decide) rfl (by decide +kernel) rfl rfl (by simp) fun F L C=>?_
  cbv
  (repeat' first|(refine Na ?_ fun _ _=>?_;(focus lia);cbv)|(refine CallThen.mk _ _ (C.fn (h1)) ?_;cbv)|(refine CallThen.mk _ _ (C.fn (coded_fn O _)) ?_;cbv)|(refine Nl fun _ _ hq=>?_;(try simp only [lenS] at hq);cbv)|(refine Nm fun _ _=>?_;cbv)|(refine Br.t ?_ ?_;(focus first|assumption|lia);cbv)|(refine Br.f ?_ ?_;(focus first|assumption|lia);cbv)|(refine Br.mk (fun _=>?_) (fun _=>?_)<;>cbv)|(refine Need.mk ?_ ?_;rotate_left;cbv)|(refine R0 ?_;cbv))
  all_goals(repeat' apply And.intro)
  all_goals first|exact True.intro|exact WkR.refl _|rfl|exact e1|exact e2|exact e3|exact e4|trace_state
 rw[if_neg k] at hT
 have n10:=k
 clear k
 by_cases k:2147483639<d.feed.total
 ·rw[if_pos k] at hT
  clear hd hf hl hs hp i1 i2 i3 i4 i5 i6 m
  obtain⟨docs,⟨base,total,chs,subs⟩,l⟩:=d
  obtain⟨kind,key,to,doc,want,has,n,most,ops,ods,ons⟩:=o
  replace n7:¬ kind=7:=n7
  replace n8:¬ kind=8:=n8
  replace n9:¬ kind=9:=n9
  replace n10:¬ kind=10:=n10
  replace k:2147483639<total:=k
  cases hT
  refine go (fn:=Proofs.Tryz.f93) (n:=95) (rv:=[ResultVar.cell 4 65,ResultVar.cell 5 37]) rfl (by decide) rfl (by decide +kernel) rfl rfl (by simp) fun F L C=>?_
  cbv
  (repeat' first|(refine Na ?_ fun _ _=>?_;(focus lia);cbv)|(refine CallThen.mk _ _ (C.fn (coded_fn O _)) ?_;cbv)|(refine Nl fun _ _ hq=>?_;(try simp only [lenS] at hq);cbv)|(refine Nm fun _ _=>?_;cbv)|(refine Br.t ?_ ?_;(focus first|assumption|lia);cbv)|(refine Br.f ?_ ?_;(focus first|assumption|lia);cbv)|(refine Br.mk (fun _=>?_) (fun _=>?_)<;>cbv)|(refine Need.mk ?_ ?_;rotate_left;cbv)|(refine R0 ?_;cbv))
  all_goals(repeat' apply And.intro)
  all_goals first|exact True.intro|exact WkR.refl _|rfl|exact e1|exact e2|exact e3|exact e4|trace_state
 ·rw[if_neg k] at hT
  obtain⟨R1,R2,R3,hR⟩:∃ R1 R2 R3,applyR d.docs o d.feed.total=(R1,R2,R3):=⟨_,_,_,rfl⟩
  have h1:=rapply_ok O d.docs o d.feed.total hd (by omega) hs ⟨hp.doc,hp.want,hp.list⟩ R1 R2 R3 hR
  obtain⟨r1,r2,r3,r4,r5,r6⟩:=applyR_ok o d.feed.total hd hR
  have h2:=radd_fn O d.feed R3 hf i1 (by omega) (fun c hc=>by
   obtain⟨j,hj,rfl⟩:=List.getElem_of_mem hc
   have:=r3 j _ (List.getElem?_eq_getElem hj)
   have:=may_len (r4 _ hc).2.1
   exact⟨⟨by omega,by omega⟩,by omega⟩) (fun c hc=>by
   rcases List.mem_append.1 hc with hc|hc
   ·obtain⟨j,hj,rfl⟩:=List.getElem_of_mem hc
    exact may_paths ((mayF_iff.1 hf).2.1 j _ hj (List.getElem?_eq_getElem hj)).2.2.1
   ·exact may_paths (r4 c hc).2.1)
  rw[show O.o addOk d.feed R3=true by rw[O.h];exact addOk_iff.2 (add_ok hf r3 r4 (by omega)).1] at h2
  obtain⟨F,eF⟩:∃ x,x=O.o addR d.feed R3:=⟨_,rfl⟩
  rw[← eF] at h2
  rw[O.h] at eF
  rw[hR] at hT
  replace hT:((⟨R1,addR d.feed R3,d.last⟩:Depot),R2)=(⟨D2,F2,d.last⟩,A2):=hT
  rw[← eF] at hT
  clear eF hR hd hf hl hs hp i1 i2 i3 i4 i5 i6 m r1 r2 r3 r4 r5 r6
  obtain⟨docs,⟨base,total,chs,subs⟩,l⟩:=d
  obtain⟨kind,key,to,doc,want,has,n,most,ops,ods,ons⟩:=o
  replace n7:¬ kind=7:=n7
  replace n8:¬ kind=8:=n8
  replace n9:¬ kind=9:=n9
  replace n10:¬ kind=10:=n10
  replace k:¬ 2147483639<total:=k
  cases hT
  obtain⟨fb,ft,fc,fs⟩:=F2
  obtain⟨qc,qh,qd,qds,qns,qn,qt,qk⟩:=A2
  refine go (fn:=Proofs.Tryz.f93) (n:=95) (rv:=[ResultVar.cell 4 65,ResultVar.cell 5 37]) rfl (by decide) rfl (by decide +kernel) rfl rfl (by simp) fun F L C=>?_
  cbv
  (repeat' first|(refine Na ?_ fun _ _=>?_;(focus lia);cbv)|(refine CallThen.mk _ _ (C.fn (h1)) ?_;cbv)|(refine CallThen.mk _ _ (C.fn (h2)) ?_;cbv)|(refine CallThen.mk _ _ (C.fn (coded_fn O _)) ?_;cbv)|(refine Nl fun _ _ hq=>?_;(try simp only [lenS] at hq);cbv)|(refine Nm fun _ _=>?_;cbv)|(refine Br.t ?_ ?_;(focus first|assumption|lia);cbv)|(refine Br.f ?_ ?_;(focus first|assumption|lia);cbv)|(refine Br.mk (fun _=>?_) (fun _=>?_)<;>cbv)|(refine Need.mk ?_ ?_;rotate_left;cbv)|(refine R0 ?_;cbv))
  all_goals(repeat' apply And.intro)
  all_goals first|exact True.intro|exact WkR.refl _|rfl|exact e1|exact e2|exact e3|exact e4|trace_state
theorem Lasts.enc_len (O:Opq) (l:List LastR):(Lasts.enc O l).length=l.length:=by rw[Lasts.enc,List.length_map]
def insRow (rows:List (List PV)) (i:Int) (r:List PV):List (List PV):=rows.take i.toNat++[r]++rows.drop i.toNat
set_option maxHeartbeats 4000000 in
theorem insertL_fn (O:Opq) (d:List LastR) (i:Int) (f:List PV) (v:List (List PV)) (hv:v=[f]) (hd:d.length≤1099511627) (h0:0≤i) (h1:i≤d.length):Fn prog 80 [.ref 0,.int .i64 i,.ref 1] [.arr 0 none 10 (O.o (Lasts.enc O) d),.arr 2 none 10 v]
  [.ref 2] [.dead,.dead,.arr 0 none 10 (O.o insRow (O.o (Lasts.enc O) d) i f)]:=by
 have hlen:=Lasts.len O d
 have hvl:v.length=1:=by rw[hv];rfl
 have hvn:v≠[]:=by rw[hv];simp
 have enc_ins:insRow (Lasts.enc O d) i f=(Lasts.enc O d).take i.toNat++[f]++(Lasts.enc O d).drop i.toNat:=rfl
 refine .inl (Fn.capAny fun c hc=>?_)
 refine goB (fn:=Proofs.Tryz.f80) (n:=92) (rv:=[ResultVar.tmp 6]) rfl (by decide) rfl (by decide +kernel) rfl rfl (by simp) fun F L C=>?_
 cbv
 (repeat' first|(refine Na ?_ fun _ _=>?_;(focus lia);cbv)|(refine RetThen.mk [(2,.loc 1728)] [] ?_;cbv;refine⟨?_,trivial⟩)|(refine RetThen.mk [(2,.loc 2688)] [] ?_;cbv;refine⟨?_,trivial⟩)|(refine RetThen.mk [(2,.loc 3968)] [] ?_;cbv;refine⟨?_,trivial⟩)|(refine CallThen.mk _ _ (C.fn (overlaps_fn (fn:=Proofs.Tryz.f145) (tS:=63) (tR:=4) (e:=131) (sz:=10) rfl (by decide) rfl (by kernel_rfl) (by kernel_rfl) rfl (fun w=>rfl) (by decide) (by decide) hvn (by lia))) ?_;cbv)|(refine Nl fun _ _ hq=>?_;(try simp only [lenS] at hq);cbv)|(refine Nm fun _ _=>?_;cbv)|(refine Br.t ?_ ?_;(focus first|assumption|lia);cbv)|(refine Br.f ?_ ?_;(focus first|assumption|lia);cbv)|(refine Br.mk (fun _=>?_) (fun _=>?_)<;>cbv)|(refine Need.mk ?_ ?_;rotate_left;cbv)|(refine R0 ?_;cbv))
 all_goals try first
  | lia
  | (dsimp only;lia)
 ·rename_i B eB
  rw[eB]
  refine WkR.of_eq ?_
  simp only [O.h] at *
  rw[enc_ins,show i.toNat=d.length by lia,List.take_of_length_le (by lia),List.drop_of_length_le (by lia),List.append_nil,hv]
 ·rename_i n1 e1 n2 e2 m em L eL hne s1 es1 cc ecc hlt t1 et1 s2 es2 s3 es3 Z eZ hZ A eA hA B eB hB i2 ei2 k2 ek2 CC eC hC w1 ew1 s4 es4 i3 ei3 k3 ek3 i4 ei4 k4 ek4 Y eY hY D eD w2 ew2
  refine WkR.of_eq ?_
  have qm:m=1:=by lia
  have qL:L=d.length:=by lia
  have qi:i.toNat<d.length:=by lia
  have q1:t1=i.toNat:=by lia
  have q2:i2=i.toNat:=by lia
  have qz:Z.length=d.length+1-i.toNat:=by clear hA hB hC hY hq;lia
  have qA:A.length=i.toNat:=by clear hB hC hY hq;lia
  have qB:B.length=d.length+1:=by clear hC hY hq;lia
  clear hA hB hC hY hq
  have q3:k2=d.length+1-i.toNat:=by lia
  have q4:i2+min v.length k2=i.toNat+1:=by lia
  have q5:i3=i.toNat+1:=by lia
  have qC:CC.length=d.length+1:=by rw[eC,List.length_append,List.length_append,List.length_take,List.length_take,List.length_drop];lia
  have q6:k3=d.length-i.toNat:=by lia
  have q7:i4=i.toNat:=by lia
  have q8:k4=d.length-i.toNat:=by lia
  have qY:Y.length=d.length-i.toNat:=by rw[eY,List.length_take,List.length_drop];lia
  have q9:i3+min Y.length k3=d.length+1:=by lia
  rw[q4,q2,q3] at eC
  rw[q9,q5,q6] at eD
  rw[q7,q8] at eY
  rw[q1] at eA
  simp only [O.h,List.drop_zero] at *
  rw[enc_ins,← hv]
  symm
  refine ins2 (Lasts.enc_len O d) qi hvl qz (r1:=B) (r2:=CC) (by rw[eB,eA]) eC ?_
  rw[eD,eY,List.take_take,Nat.min_self]
 ·rename_i n1 e1 n2 e2 m em L eL hne s1 es1 cc ecc hge s2 es2 B eB hB s3 es3 i2 ei2 k2 ek2 s4 es4 i3 ei3 k3 ek3 i4 ei4 k4 ek4 Y eY hY CC eC hC w1 ew1 i5 ei5 k5 ek5 D eD w2 ew2
  refine WkR.of_eq ?_
  have qm:m=1:=by lia
  have qL:L=d.length:=by lia
  have qi:i.toNat<d.length:=by lia
  have qB:B.length=d.length+1:=by clear hC hY hq;lia
  clear hC hY hq
  have q5:i3=i.toNat+1:=by lia
  have q6:k3=d.length-i.toNat:=by lia
  have q7:i4=i.toNat:=by lia
  have q8:k4=d.length+1-i.toNat:=by lia
  have qY:Y.length=d.length+1-i.toNat:=by rw[eY,List.length_take,List.length_drop];lia
  have q9:i3+min Y.length k3=d.length+1:=by lia
  have q2:i5=i.toNat:=by lia
  have qC:CC.length=d.length+1:=by rw[eC,List.length_append,List.length_append,List.length_take,List.length_take,List.length_drop];lia
  have q3:k5=d.length+1-i.toNat:=by lia
  have q4:i5+min v.length k5=i.toNat+1:=by lia
  have qz:s2.toNat-d.length=1:=by lia
  rw[q9,q5,q6] at eC
  rw[q4,q2,q3] at eD
  rw[q7,q8] at eY
  rw[hlen,qz] at eB
  simp only [O.h] at *
  rw[enc_ins,← hv]
  symm
  exact ins3 (Lasts.enc_len O d) qi hvl (by simp) eB (by rw[eC,eY]) eD
end Go.Sym
