/- Is what is asked small: the law's own guard. -/
import Derived.Test.YthaaoongjcmleaaGreatDoorK21
import Derived.Test.YthaaoongjcmleaaGreatDoorK19
set_option linter.all false
set_option linter.unusedVariables false
set_option linter.unusedSimpArgs false
namespace Go.Sym
open Go Go.Proofs.Tryz
set_option maxRecDepth 100000
def lightP (o:Opn):Prop:=(∀ (j:Nat) (x:Opn),o.list[j]?=some x→x.doc.length≤20∧x.want.length≤20∧x.list.length≤5)∧o.doc.length≤20∧o.want.length≤20∧o.list.length≤6∧o.docs.length≤30∧o.news.length≤20
open Classical in
noncomputable def lightO (o:Opn):Bool:=decide (lightP o)
theorem lightO_iff {o:Opn}:lightO o=true ↔ lightP o:=by simp only [lightO,decide_eq_true_eq]
set_option maxHeartbeats 1000000 in
theorem llight_fn (O:Opq) (o:Opn):Fn prog 18 [.agg (o.en O)] [] [.bool (O.o lightO o)] []:=by
 have hno:¬ lightP o→O.o lightO o=false:=fun h=>by
  simp only [O.h,lightO,decide_eq_false_iff_not];exact h
 have hyes:lightP o→O.o lightO o=true:=fun h=>by
  simp only [O.h];exact lightO_iff.2 h
 obtain⟨Q,eQ⟩:∃ Q,Q=O.o lightO o:=⟨_,rfl⟩
 rw[← eQ] at hno hyes ⊢
 clear eQ
 obtain⟨kind,key,to,doc,want,has,n,most,ops,docs,news⟩:=o
 replace hno:¬ ((∀ (j:Nat) (x:Opn),ops[j]?=some x→x.doc.length≤20∧x.want.length≤20∧x.list.length≤5)∧doc.length≤20∧want.length≤20∧ops.length≤6∧docs.length≤30∧news.length≤20)→Q=false:=hno
 replace hyes:((∀ (j:Nat) (x:Opn),ops[j]?=some x→x.doc.length≤20∧x.want.length≤20∧x.list.length≤5)∧doc.length≤20∧want.length≤20∧ops.length≤6∧docs.length≤30∧news.length≤20)→Q=true:=hyes
 have hlen:=Ops.len O ops
 have hl2:(O.o Doc.enc doc).length=doc.length:=by rw[O.h,Doc.enc_len]
 have hl3:(O.o Doc.enc want).length=want.length:=by rw[O.h,Doc.enc_len]
 have hl4:=Nms.len O docs
 have hl5:=Chs.len O news
 obtain⟨N,hN⟩:∃ N:Nat,N=ops.length:=⟨_,rfl⟩
 obtain⟨z,hz⟩:∃ z:Nat,z=0:=⟨_,rfl⟩
 refine go (fn:=Proofs.Tryz.f18) (n:=70) (rv:=[ResultVar.tmp 2]) rfl (by decide) rfl (by decide +kernel) rfl rfl (by simp) fun F L C=>?_
 cbv
 (repeat' first|(refine Na ?_ fun _ _=>?_;(focus lia);cbv)|(refine Nl fun _ _ hq=>?_;(try simp only [lenS] at hq);cbv)|(refine Nm fun _ _=>?_;cbv)|(refine Br.t ?_ ?_;(focus first|assumption|lia);cbv)|(refine Br.f ?_ ?_;(focus first|assumption|lia);cbv)|(refine Br.mk (fun _=>?_) (fun _=>?_)<;>cbv)|(refine Need.mk ?_ ?_;rotate_left;cbv)|(refine R0 ?_;cbv))
 refine LoopThen.mk (C.loopAt (ι:=Nat) [(2,42)] (fun i=>[(2,.bool false),(3,.int .i64 i)]) (fun _=>[(192,.box [.int .i64 kind,.str key,.str to,.sl false 0 false 6 (O.o Doc.enc doc),.sl false 0 false 6 (O.o Doc.enc want),.bool has,.int .i64 n,.int .i64 most,.sl false 0 false 11 (O.o (Ops.enc O) ops),.sl false 0 false 2 (O.o (Nms.enc O) docs),.sl false 0 false 4 (O.o (Chs.enc O) news)])])
  (fun i=>(i≤N∧i≤6)∧∀ (j:Nat) (x:Opn),j<i→ops[j]?=some x→x.doc.length≤20∧x.want.length≤20∧x.list.length≤5) (fun i=>N-i) (by decide +kernel) (Start.mk z [] [] ⟨by omega,fun j n hj=>by omega⟩ ?_) ?_)
 ·cbv
  (repeat' apply And.intro)<;>first|exact True.intro|exact WkR.refl _|rfl|lia|trace_state
 intro i g
 cbv
 have g1:i≤N∧i≤6:=g.1
 have g2:=g.2
 clear g
 by_cases hi:i<ops.length
 ·obtain⟨x,hx⟩:∃ x,ops[i]?=some x:=⟨ops[i],by simp [hi]⟩
  have hno1:¬ (x.doc.length≤20∧x.want.length≤20∧x.list.length≤5)→Q=false:=fun h=>hno fun k=>h (k.1 i x hx)
  have hno2:6<ops.length→Q=false:=fun h=>hno fun k=>by have:=k.2.2.2.1;omega
  have hst:(x.doc.length≤20∧x.want.length≤20∧x.list.length≤5)→∀ (j:Nat) (y:Opn),j<i+1→ops[j]?=some y→y.doc.length≤20∧y.want.length≤20∧y.list.length≤5:=fun h j n hj hn=>by
   by_cases e:j=i
   ·subst e;rw[hx] at hn;cases hn;exact h
   ·exact g2 j n (by omega) hn
  have hx1:(O.o Doc.enc x.doc).length=x.doc.length:=by rw[O.h,Doc.enc_len]
  have hx2:(O.o Doc.enc x.want).length=x.want.length:=by rw[O.h,Doc.enc_len]
  have hx3:=Ops.len O x.list
  clear hno hyes g2
  obtain⟨xkind,xkey,xto,xdoc,xwant,xhas,xn,xmost,xlist,xdocs,xnews⟩:=x
  replace hno1:¬ (xdoc.length≤20∧xwant.length≤20∧xlist.length≤5)→Q=false:=hno1
  replace hst:(xdoc.length≤20∧xwant.length≤20∧xlist.length≤5)→∀ (j:Nat) (y:Opn),j<i+1→ops[j]?=some y→y.doc.length≤20∧y.want.length≤20∧y.list.length≤5:=hst
  replace hx1:(O.o Doc.enc xdoc).length=xdoc.length:=hx1
  replace hx2:(O.o Doc.enc xwant).length=xwant.length:=hx2
  replace hx3:(O.o (Ops.enc O) xlist).length=xlist.length:=hx3
  (repeat' first|(refine Na ?_ fun _ _=>?_;(focus lia);cbv)|(refine Ex.opn O hx ?_ ?_;(focus lia);cbv)|(refine Back.up [] [] ?_ ?_ fun _ _=>?_;rotate_left 2;cbv;refine And.intro ?_ ?_)|(refine Nl fun _ _ hq=>?_;(try simp only [lenS] at hq);cbv)|(refine Nm fun _ _=>?_;cbv)|(refine Br.t ?_ ?_;(focus first|assumption|lia);cbv)|(refine Br.f ?_ ?_;(focus first|assumption|lia);cbv)|(refine Br.mk (fun _=>?_) (fun _=>?_)<;>cbv)|(refine Need.mk ?_ ?_;rotate_left;cbv)|(refine R0 ?_;cbv))
  all_goals(repeat' apply And.intro)
  all_goals try first
   | exact True.intro
   | exact WkR.refl _
   | (clear hx hno1 hno2 hst;lia)
   | exact hno1 (by clear hx hno1 hno2 hst;lia)
   | exact hno2 (by clear hx hno1 hno2 hst;lia)
   | exact hst (by clear hx hno1 hno2 hst;lia)
  all_goals trace_state
 ·have hall:i≤6→∀ (j:Nat) (x:Opn),ops[j]?=some x→x.doc.length≤20∧x.want.length≤20∧x.list.length≤5:=fun _ j x h=>g2 j x (by have:=(List.getElem?_eq_some_iff.1 h).1;omega) h
  have hy:(doc.length≤20∧want.length≤20∧ops.length≤6∧docs.length≤30∧news.length≤20)→Q=true:=fun h=>hyes ⟨hall g1.2,h⟩
  have hn:¬ (doc.length≤20∧want.length≤20∧ops.length≤6∧docs.length≤30∧news.length≤20)→Q=false:=fun h=>hno fun k=>h k.2
  clear hno hyes g2 hall
  (repeat' first|(refine Na ?_ fun _ _=>?_;(focus lia);cbv)|(refine Nl fun _ _ hq=>?_;(try simp only [lenS] at hq);cbv)|(refine Nm fun _ _=>?_;cbv)|(refine Br.t ?_ ?_;(focus first|assumption|lia);cbv)|(refine Br.f ?_ ?_;(focus first|assumption|lia);cbv)|(refine Br.mk (fun _=>?_) (fun _=>?_)<;>cbv)|(refine Need.mk ?_ ?_;rotate_left;cbv)|(refine R0 ?_;cbv))
  all_goals first
   | (exfalso;clear hy hn;lia)
   | exact⟨hy (by clear hy hn;lia),trivial⟩
   | exact⟨(hy (by clear hy hn;lia)).symm,trivial⟩
   | exact⟨hn (by clear hy hn;lia),trivial⟩
   | trace_state
theorem light_small {o:Opn} (h:lightO o=true) (m:Nat) (hm:20≤m):SmallO o m:=by
 obtain⟨h1,h2,h3,h4,h5,h6⟩:=lightO_iff.1 h
 refine⟨by omega,by omega,fun x hx=>?_,by omega⟩
 obtain⟨i,hi,rfl⟩:=List.getElem_of_mem hx
 have:=h1 i _ (List.getElem?_eq_getElem hi)
 omega
open Go Go.Proofs Go.Proofs.Tryz
set_option maxRecDepth 10000
theorem cDe1:prog.cellsOf 3=1:=by decide +kernel
def LastR.In (c:LastR):Prop:=inI (c.client)∧inI (c.id)∧(c.answer).In
def Depot.In (c:Depot):Prop:=((c.docs).length≤9223372036854775807∧∀ y∈c.docs,y.In)∧(c.feed).In∧((c.last).length≤9223372036854775807∧∀ y∈c.last,y.In)
theorem cDe7:prog.cellsOf 57=13:=by decide +kernel
theorem cDe8:prog.cellsOf 55=11:=by decide +kernel
def Reqn.In (c:Reqn):Prop:=inI (c.client)∧inI (c.id)∧(c.op).In
theorem shape_reqn {n:Nat} {xs:List PV} (h:shape prog n 57 xs):∃ c:Reqn,WkL (Reqn.ens Opq.id c) xs∧c.In:=by
 cases n with
 | zero=>exact h.elim
 | succ n =>
  simp only [shape,Tryz.underlying57,List.forall_mem_cons,List.not_mem_nil,false_imp_iff,implies_true,and_true,cDe7,cDe1,cDe8] at h
  obtain⟨hl,h0,h1,h2⟩:=h
  match xs,hl with
  | [x0,x1,x2,x3,x4,x5,x6,x7,x8,x9,x10,x11,x12],_ =>
  obtain⟨a0,e0,i0⟩:=shape_int (xs:=[x0]) h0
  obtain⟨a1,e1,i1⟩:=shape_int (xs:=[x1]) h1
  obtain⟨a2,w2,i2⟩:=shape_opn (xs:=[x2,x3,x4,x5,x6,x7,x8,x9,x10,x11,x12]) h2
  cases e0;cases e1
  exact⟨⟨a0,a1,a2⟩,(WkL.append (WkL.refl [_]) (WkL.append (WkL.refl [_]) w2)),⟨i0,i1,i2⟩⟩
theorem shape_reqns {n:Nat} {x:PV} (h:shape prog n 39 [x]):∃ l:List Reqn,Wk (.sl false 0 false 13 (l.map (Reqn.ens Opq.id))) x∧l.length≤9223372036854775807∧∀ c∈l,c.In:=by
 cases n with
 | zero=>exact h.elim
 | succ n =>
  simp only [shape,Tryz.underlying39,cDe7] at h
  rcases h with h | ⟨rows,h,hl,hr⟩
  ·cases h
   exact⟨[],.nil _ _,by simp,by simp⟩
  ·cases h
   obtain⟨l,hw,hll,hi⟩:=rows_wkx (fun r hr=>shape_reqn hr) hr
   exact⟨l,.sl' rfl rfl hw,by rw[hll];simpa [maxLen] using hl,hi⟩
end Go.Sym
