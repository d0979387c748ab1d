/- What is asked, by the document: writes; one; what may not be asked. -/
import Derived.Test.YtfkigahipkndgaaGreatDoorK10
set_option linter.all false
set_option linter.unusedVariables false
set_option linter.unusedSimpArgs false
namespace Go.Sym
open Go Go.Proofs.Tryz
set_option maxRecDepth 100000
theorem batchR_one {l:List Ndoc} {o:Opn} {total:Int} (h:writesB o=true):batchR l [o] total=runB l total [o] l []:=by
 rw[batchR,if_neg (by simp [notWrites,h])]
set_option maxHeartbeats 2000000 in
theorem rapply_one (O:Opq) (l:List Ndoc) (o:Opn) (total:Int) (hm:docsOk l=true) (hl:l.length≤1000) (ht:0≤total∧total≤2147483643) (hwb:writesB o=true)
  (hod:(o.doc.length≤1099511627∧∀ f∈o.doc,f.path.size≤9223372036854775807)∧(o.want.length≤1099511627∧∀ f∈o.want,f.path.size≤9223372036854775807)) (R1:List Ndoc) (R2:Answer) (R3:List Change) (hR:batchR l [o] total=(R1,R2,R3))
  : Fn prog 153 [.sl false 0 false 2 (O.o (Nms.enc O) l),.agg (o.en O),.int .i64 total] [] [.sl false 0 false 2 (O.o (Nms.enc O) R1),.agg (R2.enc O),.sl false 0 false 4 (O.o (Chs.enc O) R3)] []:=by
 have hba:=rbatch_fn O l [o] [o.en O] total (wk_ops1 O o) hm hl (by simp) ht (fun x hx=>by rw[List.mem_singleton.1 hx];exact hod) R1 R2 R3 (by rw[← batchR_one hwb];exact hR)
 have hba:Fn prog 205 [.sl false 0 false 2 (O.o (Nms.enc O) l),.sl true 2 false 11 [o.en O],.int .i64 total] [] [.sl false 0 false 2 (O.o (Nms.enc O) R1),.agg (R2.enc O),.sl false 0 false 4 (O.o (Chs.enc O) R3)] []:=hba.wkA (.cons (.refl _) (.cons (.bor rfl (.refl _)) (.cons (.refl _) .nil)))
 clear hm hR hod
 have hk:o.kind=1∨o.kind=2∨o.kind=3:=by simpa [writesB] using hwb
 clear hwb
 obtain⟨kind,key,to,doc,want,has,n,most,list,docs,news⟩:=o
 replace hk:kind=1∨kind=2∨kind=3:=hk
 refine go (fn:=Proofs.Tryz.f153) (n:=169) (rv:=[ResultVar.tmp 6,ResultVar.cell 7 37,ResultVar.tmp 8]) rfl (by decide) rfl (by decide +kernel) rfl rfl (by simp) fun F L C=>?_
 cbv
 (repeat' first|(refine Na ?_ fun _ _=>?_;(focus lia);cbv)|(refine CallThen.mk _ _ (C.fn (hba)) ?_;cbv)|(refine Nl fun _ _ hq=>?_;(try simp only [lenS] at hq);cbv)|(refine Nm fun _ _=>?_;cbv)|(refine Br.t ?_ ?_;(focus first|assumption|lia);cbv)|(refine Br.f ?_ ?_;(focus first|assumption|lia);cbv)|(refine Br.mk (fun _=>?_) (fun _=>?_)<;>cbv)|(refine Need.mk ?_ ?_;rotate_left;cbv)|(refine R0 ?_;cbv))
 all_goals first
  | (exfalso;clear hba;lia)
  | ((repeat' apply And.intro)<;>first|rfl|exact WkR.refl _|exact True.intro|trace_state)
set_option maxHeartbeats 2000000 in
theorem rapply_bad (O:Opq) (l:List Ndoc) (o:Opn) (total:Int) (hk:o.kind≠1∧o.kind≠2∧o.kind≠3∧o.kind≠4∧o.kind≠5∧o.kind≠6)
  : Fn prog 153 [.sl false 0 false 2 (O.o (Nms.enc O) l),.agg (o.en O),.int .i64 total] [] [.sl false 0 false 2 (O.o (Nms.enc O) l),.agg ((refA 1).enc O),.sl false 0 false 4 (O.o (Chs.enc O) [])] []:=by
 have h0:O.o Doc.enc []=[]:=by rw[O.h];rfl
 have h1:O.o (Nms.enc O) []=[]:=by rw[O.h];rfl
 have h2:O.o (Chs.enc O) []=[]:=by rw[O.h];rfl
 have h3:O.o Prs.enc []=[]:=by rw[O.h];rfl
 obtain⟨kind,key,to,doc,want,has,n,most,list,docs,news⟩:=o
 replace hk:kind≠1∧kind≠2∧kind≠3∧kind≠4∧kind≠5∧kind≠6:=hk
 refine go (fn:=Proofs.Tryz.f153) (n:=169) (rv:=[ResultVar.tmp 6,ResultVar.cell 7 37,ResultVar.tmp 8]) rfl (by decide) rfl (by decide +kernel) rfl rfl (by simp) fun F L C=>?_
 cbv
 (repeat' first|(refine Na ?_ fun _ _=>?_;(focus lia);cbv)|(refine Nl fun _ _ hq=>?_;(try simp only [lenS] at hq);cbv)|(refine Nm fun _ _=>?_;cbv)|(refine Br.t ?_ ?_;(focus first|assumption|lia);cbv)|(refine Br.f ?_ ?_;(focus first|assumption|lia);cbv)|(refine Br.mk (fun _=>?_) (fun _=>?_)<;>cbv)|(refine Need.mk ?_ ?_;rotate_left;cbv)|(refine R0 ?_;cbv))
 all_goals first
  | (exfalso;lia)
  | ((repeat' apply And.intro)<;>first|rfl|exact WkR.refl _|exact h0|exact h1|exact h2|exact h3|exact True.intro|trace_state)
open Classical in
set_option maxHeartbeats 2000000 in
theorem rapply_get (O:Opq) (l:List Ndoc) (o:Opn) (total:Int) (hm:docsOk l=true) (hl:l.length≤1000) (hk:o.kind=4) (R2:Answer) (hR:R2=if isKey o.key=true then standA l o.key else refA 1)
  : Fn prog 153 [.sl false 0 false 2 (O.o (Nms.enc O) l),.agg (o.en O),.int .i64 total] [] [.sl false 0 false 2 (O.o (Nms.enc O) l),.agg (R2.enc O),.sl false 0 false 4 (O.o (Chs.enc O) [])] []:=by
 have h0:O.o Doc.enc []=[]:=by rw[O.h];rfl
 have h1:O.o (Nms.enc O) []=[]:=by rw[O.h];rfl
 have h2:O.o (Chs.enc O) []=[]:=by rw[O.h];rfl
 have h3:O.o Prs.enc []=[]:=by rw[O.h];rfl
 have hlen:=Nms.len O l
 have hs:=(docsOk_iff.1 hm).2
 have hst:=r12at_fn O l o.key (by omega)
 have hkf:=rkey_fn O o.key
 have hfi:O.o (findI (hasK Ndoc.key o.key)) l=if getK Ndoc.key l o.key=true then(posK Ndoc.key l o.key:Int) else -1:=by rw[O.h];exact findI_hasK hs
 have hat:getK Ndoc.key l o.key=true→∃ x,l[posK Ndoc.key l o.key]?=some x∧docAt l o.key=x.doc:=fun h=>by
  obtain⟨x,hx,_⟩:=posK_there hs h
  exact⟨x,hx,docAt_at hx⟩
 have hR:R2=if O.o isKey o.key=true then(if getK Ndoc.key l o.key=true then⟨0,true,docAt l o.key,[],[],0,0,[]⟩ else ans0) else refA 1:=by rw[hR,O.h];rfl
 obtain⟨bk,ebk⟩:∃ A,A=O.o isKey o.key:=⟨_,rfl⟩
 obtain⟨D,eD⟩:∃ D,D=docAt l o.key:=⟨_,rfl⟩
 obtain⟨g,eg⟩:∃ A,A=getK Ndoc.key l o.key:=⟨_,rfl⟩
 obtain⟨w,ew⟩:∃ A,A=O.o (findI (hasK Ndoc.key o.key)) l:=⟨_,rfl⟩
 obtain⟨ps,eps⟩:∃ A,A=posK Ndoc.key l o.key:=⟨_,rfl⟩
 rw[← ebk,← eg,← eD] at hR
 rw[← ew] at hst
 rw[← ew,← eg,← eps] at hfi
 rw[← eg,← eps,← eD] at hat
 rw[← ebk] at hkf
 clear ebk eg ew eps eD hm hs
 obtain⟨kind,key,to,doc,want,has,n,most,list,docs,news⟩:=o
 replace hk:kind=4:=hk
 cases bk with
 | false =>
  have hR:R2=refA 1:=hR
  clear hfi hat hst
  refine go (fn:=Proofs.Tryz.f153) (n:=169) (rv:=[ResultVar.tmp 6,ResultVar.cell 7 37,ResultVar.tmp 8]) rfl (by decide) rfl (by decide +kernel) rfl rfl (by simp) fun F L C=>?_
  cbv
  (repeat' first|(refine Na ?_ fun _ _=>?_;(focus lia);cbv)|(refine CallThen.bool (C.fn (hkf)) (fun _=>?_) (fun _=>?_)<;>cbv)|(refine Nl fun _ _ hq=>?_;(try simp only [lenS] at hq);cbv)|(refine Nm fun _ _=>?_;cbv)|(refine Br.t ?_ ?_;(focus first|assumption|lia);cbv)|(refine Br.f ?_ ?_;(focus first|assumption|lia);cbv)|(refine Br.mk (fun _=>?_) (fun _=>?_)<;>cbv)|(refine Need.mk ?_ ?_;rotate_left;cbv)|(refine R0 ?_;cbv))
  all_goals first
   | (exfalso;clear hkf;lia)
   | (rw[hR];(repeat' apply And.intro)<;>first|rfl|exact WkR.refl _|exact h0|exact h1|exact h2|exact h3|exact True.intro|trace_state)
 | true =>
  cases g with
  | false =>
   have hR:R2=ans0:=hR
   have hfi:w=-1:=hfi
   clear hat
   refine go (fn:=Proofs.Tryz.f153) (n:=169) (rv:=[ResultVar.tmp 6,ResultVar.cell 7 37,ResultVar.tmp 8]) rfl (by decide) rfl (by decide +kernel) rfl rfl (by simp) fun F L C=>?_
   cbv
   (repeat' first|(refine Na ?_ fun _ _=>?_;(focus lia);cbv)|(refine CallThen.bool (C.fn (hkf)) (fun _=>?_) (fun _=>?_)<;>cbv)|(refine CallThen.mk _ _ (C.fn (hst)) ?_;cbv)|(refine Nl fun _ _ hq=>?_;(try simp only [lenS] at hq);cbv)|(refine Nm fun _ _=>?_;cbv)|(refine Br.t ?_ ?_;(focus first|assumption|lia);cbv)|(refine Br.f ?_ ?_;(focus first|assumption|lia);cbv)|(refine Br.mk (fun _=>?_) (fun _=>?_)<;>cbv)|(refine Need.mk ?_ ?_;rotate_left;cbv)|(refine R0 ?_;cbv))
   all_goals first
    | (exfalso;clear hkf hst;lia)
    | (rw[hR];(repeat' apply And.intro)<;>first|rfl|exact WkR.refl _|exact h0|exact h1|exact h2|exact h3|exact True.intro|trace_state)
  | true =>
   have hR:R2=⟨0,true,D,[],[],0,0,[]⟩:=hR
   have hfi:w=ps:=hfi
   obtain⟨x,hx,hxd⟩:=hat rfl
   clear hat
   obtain⟨xk,xd⟩:=x
   replace hxd:D=xd:=hxd
   subst hxd
   refine go (fn:=Proofs.Tryz.f153) (n:=169) (rv:=[ResultVar.tmp 6,ResultVar.cell 7 37,ResultVar.tmp 8]) rfl (by decide) rfl (by decide +kernel) rfl rfl (by simp) fun F L C=>?_
   cbv
   (repeat' first|(refine Na ?_ fun _ _=>?_;(focus lia);cbv)|(refine CallThen.bool (C.fn (hkf)) (fun _=>?_) (fun _=>?_)<;>cbv)|(refine CallThen.mk _ _ (C.fn (hst)) ?_;cbv)|(refine Ex.known O (Ndoc.enc O) rfl hx ?_ ?_;(focus lia);cbv)|(refine Nl fun _ _ hq=>?_;(try simp only [lenS] at hq);cbv)|(refine Nm fun _ _=>?_;cbv)|(refine Br.t ?_ ?_;(focus first|assumption|lia);cbv)|(refine Br.f ?_ ?_;(focus first|assumption|lia);cbv)|(refine Br.mk (fun _=>?_) (fun _=>?_)<;>cbv)|(refine Need.mk ?_ ?_;rotate_left;cbv)|(refine R0 ?_;cbv))
   all_goals first
    | (exfalso;clear hkf hst hx;lia)
    | (clear hkf hst hx;lia)
    | (rw[hR];(repeat' apply And.intro)<;>first|rfl|exact WkR.refl _|exact h0|exact h1|exact h2|exact h3|exact True.intro|trace_state)
theorem writesB_iff {o:Opn}:writesB o=true ↔ ¬ (o.kind<1∨3<o.kind):=by
 rw[writesB,decide_eq_true_eq];omega
theorem batchR_bad {l:List Ndoc} {ops:List Opn} {total:Int} (h:ops.length<1∨4<ops.length∨∃ (i:Nat) (o:Opn),ops[i]?=some o∧(o.kind<1∨3<o.kind)):batchR l ops total=(l,refA 1,[]):=by
 rw[batchR,if_pos]
 rcases h with h|h | ⟨i,o,h,k⟩
 ·exact .inl h
 ·exact .inr (.inl h)
 ·refine .inr (.inr ?_)
  rw[List.any_eq_true]
  refine⟨o,List.mem_of_getElem? h,?_⟩
  rw[notWrites]
  cases e:writesB o with
  | false=>rfl
  | true=>exact absurd k (writesB_iff.1 e)
theorem batchR_good {l:List Ndoc} {ops:List Opn} {total:Int} (h0:¬ ops.length<1) (h1:¬ 4<ops.length) (h:∀ (i:Nat) (o:Opn),i<ops.length→ops[i]?=some o→¬ (o.kind<1∨3<o.kind)):batchR l ops total=runB l total ops l []:=by
 rw[batchR,if_neg]
 rintro (k|k|k)
 ·exact h0 k
 ·exact h1 k
 ·obtain⟨o,ho,k⟩:=List.any_eq_true.1 k
  obtain⟨i,hi,rfl⟩:=List.getElem_of_mem ho
  have:=writesB_iff.2 (h i _ hi (List.getElem?_eq_getElem hi))
  rw[notWrites,this] at k;cases k
set_option maxHeartbeats 2000000 in
theorem rapply_more (O : Opq) (l : List Ndoc) (o : Opn) (total : Int) (hm : docsOk l = true) (hl : l.length ≤ 1000) (ht : 0 ≤ total ∧ total ≤ 2147483643) (hk : o.kind = 6) (hol : o.list.length ≤ 1000000000)
    (hod:∀ x∈o.list,(x.doc.length≤1099511627∧∀ f∈x.doc,f.path.size≤9223372036854775807)∧(x.want.length≤1099511627∧∀ f∈x.want,f.path.size≤9223372036854775807)) (R1:List Ndoc) (R2:Answer) (R3:List Change) (hR:batchR l o.list total=(R1,R2,R3))
    : Fn prog 153 [.sl false 0 false 2 (O.o (Nms.enc O) l),.agg (o.en O),.int .i64 total] [] [.sl false 0 false 2 (O.o (Nms.enc O) R1),.agg (R2.enc O),.sl false 0 false 4 (O.o (Chs.enc O) R3)] []:=by
  have h0:O.o Doc.enc []=[]:=by rw[O.h];rfl
  have h1:O.o (Nms.enc O) []=[]:=by rw[O.h];rfl
  have h2:O.o (Chs.enc O) []=[]:=by rw[O.h];rfl
  have h3:O.o Prs.enc []=[]:=by rw[O.h];rfl
  have hba:=fun h=>rbatch_fn O l o.list _ total rfl hm hl hol ht hod R1 R2 R3 h
  have hba:runB l total o.list l []=(R1,R2,R3)→Fn prog 205 [.sl false 0 false 2 (O.o (Nms.enc O) l),.sl false 0 false 11 (O.o (Ops.enc O) o.list),.int .i64 total] [] [.sl false 0 false 2 (O.o (Nms.enc O) R1),.agg (R2.enc O),.sl false 0 false 4 (O.o (Chs.enc O) R3)] []:=fun h=>(hba h).wkA (.cons (.refl _) (.cons (.lend rfl) (.cons (.refl _) .nil)))
  have hno:(o.list.length<1∨4<o.list.length∨∃ (i:Nat) (x:Opn),o.list[i]?=some x∧(x.kind<1∨3<x.kind))→R1=l∧R2=refA 1∧R3=[]:=fun h=>by
    rw[batchR_bad h] at hR;cases hR;exact⟨rfl,rfl,rfl⟩
  have hyes:¬ o.list.length<1→¬ 4<o.list.length→(∀ (i:Nat) (x:Opn),i<o.list.length→o.list[i]?=some x→¬ (x.kind<1∨3<x.kind))→Fn prog 205 [.sl false 0 false 2 (O.o (Nms.enc O) l),.sl false 0 false 11 (O.o (Ops.enc O) o.list),.int .i64 total] [] [.sl false 0 false 2 (O.o (Nms.enc O) R1),.agg (R2.enc O),.sl false 0 false 4 (O.o (Chs.enc O) R3)] []:=fun a b c=>hba (by rw[← batchR_good a b c];exact hR)
  clear hba hR hod hm
  obtain⟨kind,key,to,doc,want,has,n,most,ops,docs,news⟩:=o
  replace hk:kind=6:=hk
  replace hol:ops.length≤1000000000:=hol
  replace hno:(ops.length<1∨4<ops.length∨∃ (i:Nat) (x:Opn),ops[i]?=some x∧(x.kind<1∨3<x.kind))→R1=l∧R2=refA 1∧R3=[]:=hno
  replace hyes:¬ ops.length<1→¬ 4<ops.length→(∀ (i:Nat) (x:Opn),i<ops.length→ops[i]?=some x→¬ (x.kind<1∨3<x.kind))→Fn prog 205 [.sl false 0 false 2 (O.o (Nms.enc O) l),.sl false 0 false 11 (O.o (Ops.enc O) ops),.int .i64 total] [] [.sl false 0 false 2 (O.o (Nms.enc O) R1),.agg (R2.enc O),.sl false 0 false 4 (O.o (Chs.enc O) R3)] []:=hyes
  have hlen:=Ops.len O ops
  by_cases hb:ops.length<1∨4<ops.length
  · obtain⟨r1,r2,r3⟩:=hno (by rcases hb with h|h;exact .inl h;exact .inr (.inl h))
    clear hno hyes
    refine go (fn:=Proofs.Tryz.f153) (n:=169) (rv:=[ResultVar.tmp 6,ResultVar.cell 7 37,ResultVar.tmp 8]) rfl (by decide) rfl (by decide +kernel) rfl rfl (by simp) fun F L C=>?_
    cbv
    (repeat' first|(refine Na ?_ fun _ _=>?_;(focus lia);cbv)|(refine Nl fun _ _ hq=>?_;(try simp only [lenS] at hq);cbv)|(refine Nm fun _ _=>?_;cbv)|(refine Br.t ?_ ?_;(focus first|assumption|lia);cbv)|(refine Br.f ?_ ?_;(focus first|assumption|lia);cbv)|(refine Br.mk (fun _=>?_) (fun _=>?_)<;>cbv)|(refine Need.mk ?_ ?_;rotate_left;cbv)|(refine R0 ?_;cbv))
    all_goals first
      | (exfalso;clear r2;lia)
      | (rw[r1,r2,r3];(repeat' apply And.intro)<;>first|rfl|exact WkR.refl _|exact h0|exact h1|exact h2|exact h3|exact True.intro|trace_state)
  · have hyes:=hyes (fun h=>hb (.inl h)) (fun h=>hb (.inr h))
    have hno:∀ (i:Nat) (x:Opn),ops[i]?=some x→(x.kind<1∨3<x.kind)→R1=l∧R2=refA 1∧R3=[]:=fun i x h k=>hno (.inr (.inr ⟨i,x,h,k⟩))
    obtain⟨N,hN⟩:∃ N:Nat,N=ops.length:=⟨_,rfl⟩
    obtain⟨z,hz⟩:∃ z:Nat,z=0:=⟨_,rfl⟩
    refine go (fn:=Proofs.Tryz.f153) (n:=169) (rv:=[ResultVar.tmp 6,ResultVar.cell 7 37,ResultVar.tmp 8]) rfl (by decide) rfl (by decide +kernel) rfl rfl (by simp) fun F L C=>?_
    cbv
    (repeat' first|(refine Na ?_ fun _ _=>?_;(focus lia);cbv)|(refine Nl fun _ _ hq=>?_;(try simp only [lenS] at hq);cbv)|(refine Nm fun _ _=>?_;cbv)|(refine Br.t ?_ ?_;(focus first|assumption|lia);cbv)|(refine Br.f ?_ ?_;(focus first|assumption|lia);cbv)|(refine Br.mk (fun _=>?_) (fun _=>?_)<;>cbv)|(refine Need.mk ?_ ?_;rotate_left;cbv)|(refine R0 ?_;cbv))
    all_goals try(exfalso;clear hyes hno;lia)
    refine LoopThen.mk (C.loopAt (ι:=Nat) [(6,6),(8,9),(41,65)] (fun i=>[(9,.int .i64 i)]) (fun i=>[(384,.box [.int .i64 kind,.str key,.str to,.sl false 0 false 6 (O.o Doc.enc doc),.sl false 0 false 6 (O.o Doc.enc want),.bool has,.int .i64 n,.int .i64 most,.sl false 0 false 11 (O.o (Ops.enc O) ops),.sl false 0 false 2 (O.o (Nms.enc O) docs),.sl false 0 false 4 (O.o (Chs.enc O) news)]),(576,.box [.int .i64 0,.bool false,.nils,.nils,.nils,.int .i64 0,.int .i64 0,.nils])])
      (fun i=>i≤N∧∀ (j:Nat) (x:Opn),j<i→ops[j]?=some x→¬ (x.kind<1∨3<x.kind)) (fun i=>N-i) (by decide +kernel) (Start.mk z [] [] ⟨by omega,fun j x hj=>by omega⟩ ?_) ?_)
    · cbv
      (repeat' apply And.intro)<;>first|exact True.intro|exact WkR.refl _|rfl|(clear hyes hno;lia)|trace_state
    intro i g
    cbv
    have g1:i≤N:=g.1
    have g2:∀ (j:Nat) (x:Opn),j<i→ops[j]?=some x→¬ (x.kind<1∨3<x.kind):=g.2
    clear g
    by_cases hi:i<ops.length
    · obtain⟨x,hx⟩:∃ x,ops[i]?=some x:=⟨ops[i],by simp [hi]⟩
      have hno:=hno i x hx
      have hst:¬ (x.kind<1∨3<x.kind)→∀ (j:Nat) (y:Opn),j<i+1→ops[j]?=some y→¬ (y.kind<1∨3<y.kind):=fun h j y hj hy=>by
        by_cases e:j=i
        · subst e;rw[hx] at hy;cases hy;exact h
        · exact g2 j y (by omega) hy
      clear hyes g2
      obtain⟨xkind,xkey,xto,xdoc,xwant,xhas,xn,xmost,xlist,xdocs,xnews⟩:=x
      replace hno:(xkind<1∨3<xkind)→R1=l∧R2=refA 1∧R3=[]:=hno
      replace hst:¬ (xkind<1∨3<xkind)→∀ (j:Nat) (y:Opn),j<i+1→ops[j]?=some y→¬ (y.kind<1∨3<y.kind):=hst
      (repeat' first|(refine Na ?_ fun _ _=>?_;(focus lia);cbv)|(refine Ex.opn O hx ?_ ?_;(focus lia);cbv)|(refine Back.to (i+1) [] [] ?_ fun _ _=>?_;rotate_left;cbv)|(refine Nl fun _ _ hq=>?_;(try simp only [lenS] at hq);cbv)|(refine Nm fun _ _=>?_;cbv)|(refine Br.t ?_ ?_;(focus first|assumption|lia);cbv)|(refine Br.f ?_ ?_;(focus first|assumption|lia);cbv)|(refine Br.mk (fun _=>?_) (fun _=>?_)<;>cbv)|(refine Need.mk ?_ ?_;rotate_left;cbv)|(refine R0 ?_;cbv))
      all_goals try first
        | (exfalso;clear hno hst hx;lia)
        | (clear hno hst hx;lia)
        | exact⟨⟨by show i+1≤N;omega,hst (by clear hno hst hx;lia)⟩,by show N-(i+1)<N-i;omega⟩
      all_goals first
        | (obtain ⟨r1, r2, r3⟩ := hno (by clear hno hst hx; lia)
           rw[r1,r2,r3];(repeat' apply And.intro)<;>first|rfl|exact WkR.refl _|exact h0|exact h1|exact h2|exact h3|exact True.intro|trace_state)
        | (rename_i y ey;subst ey;(repeat' apply And.intro)<;>first|exact True.intro|exact WkR.refl _|rfl|(clear hno hst hx;lia)|(clear hno hst hx;subst_vars;rfl)|trace_state)
    · have hyes:=hyes fun j x hj=>g2 j x (by omega)
      clear hno g2
      (repeat' first|(refine Na ?_ fun _ _=>?_;(focus lia);cbv)|(refine CallThen.mk _ _ (C.fn (hyes)) ?_;cbv)|(refine Nl fun _ _ hq=>?_;(try simp only [lenS] at hq);cbv)|(refine Nm fun _ _=>?_;cbv)|(refine Br.t ?_ ?_;(focus first|assumption|lia);cbv)|(refine Br.f ?_ ?_;(focus first|assumption|lia);cbv)|(refine Br.mk (fun _=>?_) (fun _=>?_)<;>cbv)|(refine Need.mk ?_ ?_;rotate_left;cbv)|(refine R0 ?_;cbv))
      all_goals first
        | (exfalso;clear hyes;lia)
        | ((repeat' apply And.intro)<;>first|rfl|exact WkR.refl _|exact True.intro|trace_state)
set_option maxHeartbeats 4000000 in
theorem apply_more (O:Opq) (l:List Ndoc) (o:Opn) (total:Int) (hm:mayD l=true) (ht:0≤total∧total≤2147483643) (hk:o.kind=6) (hod:∀ x∈o.list,x.doc.length≤1099511627∧x.want.length≤1099511627) (hol:o.list.length≤1099511627776) (R1:List Ndoc) (R2:Answer) (R3:List Change) (hR:batchR l o.list total=(R1,R2,R3))
  : Fn prog 136 [.sl false 0 false 2 (O.o (Nms.enc O) l),.agg (o.en O),.int .i64 total] [] [.sl false 0 false 2 (O.o (Nms.enc O) R1),.agg (R2.enc O),.sl false 0 false 4 (O.o (Chs.enc O) R3),.int .i64 0] []:=by
 have hlen:=Nms.len O l
 obtain⟨m1,m2,m3⟩:=mayD_iff.1 hm
 have hdl:∀ n∈l,n.doc.length≤1099511627:=fun n hn=>by have:=may_len (m2 n hn).2;omega
 have hck:=scheck_fn O l (by omega) (fun n hn=>by have:=hdl n hn;omega)
 have how:Fn prog 190 [.sl false 0 false 2 (O.o (Nms.enc O) l)] [] [.sl false 0 false 2 (O.o (Nms.enc O) l)] []:=(ownNW_fn O l (by omega) hdl).wkA (.cons (.lend rfl) .nil)
 rw[show O.o mayDE l=0 by rw[O.h];exact mayDE_zero.2 hm] at hck
 have hw:=writes_fn O o
 have hba:=batch_fn O l o.list (O.o (Ops.enc O) o.list) total rfl (by rw[mayD,Bool.and_eq_true] at hm;exact hm.2) (by omega) hol ht hod R1 R2 R3 hR
 have hba:Fn prog 192 [.sl false 0 false 2 (O.o (Nms.enc O) l),.sl false 0 false 11 (O.o (Ops.enc O) o.list),.int .i64 total] [] [.sl false 0 false 2 (O.o (Nms.enc O) R1),.agg (R2.enc O),.ref 0] [.arr 0 none 4 (O.o (Chs.enc O) R3)]:=hba.wkA (.cons (.refl _) (.cons (.lend rfl) (.cons (.refl _) .nil)))
 have hw0:O.o writesB o=false:=by rw[O.h,writesB,hk];decide
 rw[hw0] at hw
 have hds:∀ c∈R3,c.doc.length≤1099511627:=fun c hc=>by
  have:=batchR_docs (l:=l) (ops:=o.list) (total:=total) (m:=1099511627) (fun x hx=>(hod x hx).1) c (by rw[hR];exact hc)
  exact this
 have hln:R3.length≤1099511627776:=by have:=batchR_len (l:=l) (ops:=o.list) (total:=total);rw[hR] at this;exact Nat.le_trans this hol
 clear hm m2 m3 hdl hw0
 have hd3:∀ c∈R3,c.doc.length≤1099511627:=hds
 have hc3:=Chs.len O R3
 have h3l:R3.length≤1099511627776:=hln
 obtain⟨N,hN⟩:∃ N:Nat,N=R3.length:=⟨_,rfl⟩
 obtain⟨z,hz⟩:∃ z:Nat,z=0:=⟨_,rfl⟩
 have hR3:True:=trivial
 clear hR
 obtain⟨kind,key,to,doc,want,has,n,most,list,docs,news⟩:=o
 replace hk:kind=6:=hk
 refine go (fn:=Proofs.Tryz.f136) (n:=89) (rv:=[ResultVar.tmp 6,ResultVar.cell 7 37,ResultVar.tmp 8,ResultVar.tmp 9]) rfl (by decide) rfl (by decide +kernel) rfl rfl (by simp) fun F L C=>?_
 cbv
 (repeat' first|(refine Na ?_ fun _ _=>?_;(focus lia);cbv)|(refine CallThen.mk _ _ (C.fn (hck)) ?_;cbv)|(refine CallThen.mk _ _ (C.fn (how)) ?_;cbv)|(refine CallThen.mk _ _ (C.fn (hw)) ?_;cbv)|(refine CallThen.mk _ _ (C.fn (hba)) ?_;cbv)|(refine Nl fun _ _ hq=>?_;(try simp only [lenS] at hq);cbv)|(refine Nm fun _ _=>?_;cbv)|(refine Br.t ?_ ?_;(focus first|assumption|lia);cbv)|(refine Br.f ?_ ?_;(focus first|assumption|lia);cbv)|(refine Br.mk (fun _=>?_) (fun _=>?_)<;>cbv)|(refine Need.mk ?_ ?_;rotate_left;cbv)|(refine R0 ?_;cbv))
 all_goals try(exfalso;clear hck how hd3 hR3;lia)
 refine LoopThen.mk (C.loopAt (ι:=Nat) [(12,12),(75,88)] (fun i=>[(75,.int .i64 i),(11,.ref 50),(44,.top),(49,.top),(52,.top),(73,.top)]) (fun i=>[(50,.arr 0 none 4 (O.o (Chs.enc O) R3)),(384,.box [.int .i64 kind,.str key,.str to,.sl false 0 false 6 (O.o Doc.enc doc),.sl false 0 false 6 (O.o Doc.enc want),.bool has,.int .i64 n,.int .i64 most,.sl false 0 false 11 (O.o (Ops.enc O) list),.sl false 0 false 2 (O.o (Nms.enc O) docs),.sl false 0 false 4 (O.o (Chs.enc O) news)]),(576,.box [.int .i64 0,.bool false,.nils,.nils,.nils,.int .i64 0,.int .i64 0,.nils]),(768,.box (R2.enc O))])
  (fun i=>i≤N) (fun i=>N-i) (by decide +kernel) (Start.mk z [(50,.loc 3264)] [] (by lia) ?_) ?_)
 ·cbv
  (repeat' apply And.intro)<;>first|exact True.intro|exact WkR.refl _|rfl|exact hR3|lia|trace_state
 intro i g1
 cbv
 by_cases hi:i<R3.length
 ·obtain⟨x,hx⟩:∃ x,R3[i]?=some x:=⟨R3[i],by simp [hi]⟩
  have hcl:=cloneW_fn O x.doc (hd3 x (List.mem_of_getElem? hx))
  have hse:=chs_set O hx
  clear hd3 hck how hR3
  obtain⟨xp,xk,xh,xd⟩:=x
  (repeat' first|(refine Na ?_ fun _ _=>?_;(focus lia);cbv)|(refine Ex.known O (Change.enc O) rfl hx ?_ ?_;(focus lia);cbv)|(refine CallThen.mk _ _ (C.fn (hcl)) ?_;cbv)|(refine Back.up [] [] ?_ ?_ fun _ _=>?_;rotate_left 2;cbv;refine And.intro ?_ ?_)|(refine Nl fun _ _ hq=>?_;(try simp only [lenS] at hq);cbv)|(refine Nm fun _ _=>?_;cbv)|(refine Br.t ?_ ?_;(focus first|assumption|lia);cbv)|(refine Br.f ?_ ?_;(focus first|assumption|lia);cbv)|(refine Br.mk (fun _=>?_) (fun _=>?_)<;>cbv)|(refine Need.mk ?_ ?_;rotate_left;cbv)|(refine R0 ?_;cbv))
  all_goals(repeat' apply And.intro)
  all_goals first
   | exact True.intro
   | exact WkR.refl _
   | (clear hx hse hcl;lia)
   | (subst_vars;exact WkR.of_eq hse.symm)
   | trace_state
 ·clear hd3 hck how hR3
  (repeat' first|(refine Na ?_ fun _ _=>?_;(focus lia);cbv)|(refine RetThen.mk [] [50] ?_;cbv)|(refine Nl fun _ _ hq=>?_;(try simp only [lenS] at hq);cbv)|(refine Nm fun _ _=>?_;cbv)|(refine Br.t ?_ ?_;(focus first|assumption|lia);cbv)|(refine Br.f ?_ ?_;(focus first|assumption|lia);cbv)|(refine Br.mk (fun _=>?_) (fun _=>?_)<;>cbv)|(refine Need.mk ?_ ?_;rotate_left;cbv)|(refine R0 ?_;cbv))
  all_goals(repeat' apply And.intro)
  all_goals first
   | exact True.intro
   | exact WkR.refl _
   | rfl
   | lia
   | (refine Nm fun rs e=>⟨.of_eq e.symm,?_⟩;cbv)
   | (refine WkR.of_eq ?_;symm;assumption)
   | trace_state
set_option maxHeartbeats 4000000 in
theorem apply_no (O:Opq) (l:List Ndoc) (o:Opn) (total:Int) (hm:mayD l=true) (ht:0≤total∧total≤2147483643) (hk:o.kind≠1∧o.kind≠2∧o.kind≠3∧o.kind≠5∧o.kind≠6∧(o.kind=4→isKey o.key=false)) (hR:True)
  : Fn prog 136 [.sl false 0 false 2 (O.o (Nms.enc O) l),.agg (o.en O),.int .i64 total] [] [.sl false 0 false 2 (O.o (Nms.enc O) l),.agg ((refA 1).enc O),.sl false 0 false 4 [],.int .i64 0] []:=by
 have hlen:=Nms.len O l
 obtain⟨m1,m2,m3⟩:=mayD_iff.1 hm
 have hdl:∀ n∈l,n.doc.length≤1099511627:=fun n hn=>by have:=may_len (m2 n hn).2;omega
 have hck:=scheck_fn O l (by omega) (fun n hn=>by have:=hdl n hn;omega)
 have how:Fn prog 190 [.sl false 0 false 2 (O.o (Nms.enc O) l)] [] [.sl false 0 false 2 (O.o (Nms.enc O) l)] []:=(ownNW_fn O l (by omega) hdl).wkA (.cons (.lend rfl) .nil)
 rw[show O.o mayDE l=0 by rw[O.h];exact mayDE_zero.2 hm] at hck
 have hw:=writes_fn O o
 have hkf:=key_fn O o.key
 have hkk:o.kind=4→O.o isKey o.key=false:=fun h=>by rw[O.h];exact hk.2.2.2.2.2 h
 have hw0:O.o writesB o=false:=by rw[O.h,writesB];exact decide_eq_false (by omega)
 rw[hw0] at hw
 obtain⟨R3,e3⟩:∃ R:List Change,R=[]:=⟨_,rfl⟩
 have h30:O.o (Chs.enc O) R3=[]:=by rw[e3,O.h];rfl
 rw[← h30]
 obtain⟨R2,e2⟩:∃ R,R=refA 1:=⟨_,rfl⟩
 have hrf:=refused_fn O 1
 rw[← e2] at hrf ⊢
 clear hm m2 m3 hdl e2 hw0
 have hk:o.kind≠5∧o.kind≠6:=⟨hk.2.2.2.1,hk.2.2.2.2.1⟩
 obtain⟨B,eB⟩:∃ B,B=O.o isKey o.key:=⟨_,rfl⟩
 rw[← eB] at hkf hkk
 clear eB
 by_cases h4:o.kind=4
 ·have hB:=hkk h4
  rw[hB] at hkf
  have hk:o.kind=4:=h4
  clear hkk h4
  have hd3:∀ c∈R3,c.doc.length≤1099511627:=by rw[e3];simp
  have hc3:=Chs.len O R3
  have h3l:R3.length≤1099511627776:=by rw[e3];simp
  obtain⟨N,hN⟩:∃ N:Nat,N=R3.length:=⟨_,rfl⟩
  obtain⟨z,hz⟩:∃ z:Nat,z=0:=⟨_,rfl⟩
  have hR3:O.o (Chs.enc O) R3=[]:=h30
  clear hR
  obtain⟨kind,key,to,doc,want,has,n,most,list,docs,news⟩:=o
  replace hk:kind=4:=hk
  refine go (fn:=Proofs.Tryz.f136) (n:=89) (rv:=[ResultVar.tmp 6,ResultVar.cell 7 37,ResultVar.tmp 8,ResultVar.tmp 9]) rfl (by decide) rfl (by decide +kernel) rfl rfl (by simp) fun F L C=>?_
  cbv
  (repeat' first|(refine Na ?_ fun _ _=>?_;(focus lia);cbv)|(refine CallThen.mk _ _ (C.fn (hck)) ?_;cbv)|(refine CallThen.mk _ _ (C.fn (how)) ?_;cbv)|(refine CallThen.mk _ _ (C.fn (hw)) ?_;cbv)|(refine CallThen.mk _ _ (C.fn (hkf)) ?_;cbv)|(refine CallThen.mk _ _ (C.fn (hrf)) ?_;cbv)|(refine Nl fun _ _ hq=>?_;(try simp only [lenS] at hq);cbv)|(refine Nm fun _ _=>?_;cbv)|(refine Br.t ?_ ?_;(focus first|assumption|lia);cbv)|(refine Br.f ?_ ?_;(focus first|assumption|lia);cbv)|(refine Br.mk (fun _=>?_) (fun _=>?_)<;>cbv)|(refine Need.mk ?_ ?_;rotate_left;cbv)|(refine R0 ?_;cbv))
  all_goals try(exfalso;clear hck how hd3 hR3;lia)
  refine LoopThen.mk (C.loopAt (ι:=Nat) [(12,12),(75,88)] (fun i=>[(75,.int .i64 i),(11,.ref 50)]) (fun i=>[(50,.arr 0 none 4 (O.o (Chs.enc O) R3)),(384,.box [.int .i64 kind,.str key,.str to,.sl false 0 false 6 (O.o Doc.enc doc),.sl false 0 false 6 (O.o Doc.enc want),.bool has,.int .i64 n,.int .i64 most,.sl false 0 false 11 (O.o (Ops.enc O) list),.sl false 0 false 2 (O.o (Nms.enc O) docs),.sl false 0 false 4 (O.o (Chs.enc O) news)]),(576,.box [.int .i64 0,.bool false,.nils,.nils,.nils,.int .i64 0,.int .i64 0,.nils]),(768,.box (R2.enc O))])
   (fun i=>i≤N) (fun i=>N-i) (by decide +kernel) (Start.mk z [(50,.nil 4)] [] (by lia) ?_) ?_)
  ·cbv
   (repeat' apply And.intro)<;>first|exact True.intro|exact WkR.refl _|rfl|exact hR3|lia|trace_state
  intro i g1
  cbv
  by_cases hi:i<R3.length
  ·exfalso
   rw[e3] at hi
   simp at hi
  ·clear hd3 hck how hR3
   (repeat' first|(refine Na ?_ fun _ _=>?_;(focus lia);cbv)|(refine RetThen.mk [] [50] ?_;cbv)|(refine Nl fun _ _ hq=>?_;(try simp only [lenS] at hq);cbv)|(refine Nm fun _ _=>?_;cbv)|(refine Br.t ?_ ?_;(focus first|assumption|lia);cbv)|(refine Br.f ?_ ?_;(focus first|assumption|lia);cbv)|(refine Br.mk (fun _=>?_) (fun _=>?_)<;>cbv)|(refine Need.mk ?_ ?_;rotate_left;cbv)|(refine R0 ?_;cbv))
   all_goals(repeat' apply And.intro)
   all_goals first
    | exact True.intro
    | exact WkR.refl _
    | rfl
    | lia
    | (refine Nm fun rs e=>⟨.of_eq e.symm,?_⟩;cbv)
    | (refine WkR.of_eq ?_;symm;assumption)
    | trace_state
 ·have hk:o.kind≠5∧o.kind≠6∧o.kind≠4:=⟨hk.1,hk.2,h4⟩
  clear hkk h4
  have hd3:∀ c∈R3,c.doc.length≤1099511627:=by rw[e3];simp
  have hc3:=Chs.len O R3
  have h3l:R3.length≤1099511627776:=by rw[e3];simp
  obtain⟨N,hN⟩:∃ N:Nat,N=R3.length:=⟨_,rfl⟩
  obtain⟨z,hz⟩:∃ z:Nat,z=0:=⟨_,rfl⟩
  have hR3:O.o (Chs.enc O) R3=[]:=h30
  clear hR
  obtain⟨kind,key,to,doc,want,has,n,most,list,docs,news⟩:=o
  replace hk:kind≠5∧kind≠6∧kind≠4:=hk
  refine go (fn:=Proofs.Tryz.f136) (n:=89) (rv:=[ResultVar.tmp 6,ResultVar.cell 7 37,ResultVar.tmp 8,ResultVar.tmp 9]) rfl (by decide) rfl (by decide +kernel) rfl rfl (by simp) fun F L C=>?_
  cbv
  (repeat' first|(refine Na ?_ fun _ _=>?_;(focus lia);cbv)|(refine CallThen.mk _ _ (C.fn (hck)) ?_;cbv)|(refine CallThen.mk _ _ (C.fn (how)) ?_;cbv)|(refine CallThen.mk _ _ (C.fn (hw)) ?_;cbv)|(refine CallThen.mk _ _ (C.fn (hkf)) ?_;cbv)|(refine CallThen.mk _ _ (C.fn (hrf)) ?_;cbv)|(refine Nl fun _ _ hq=>?_;(try simp only [lenS] at hq);cbv)|(refine Nm fun _ _=>?_;cbv)|(refine Br.t ?_ ?_;(focus first|assumption|lia);cbv)|(refine Br.f ?_ ?_;(focus first|assumption|lia);cbv)|(refine Br.mk (fun _=>?_) (fun _=>?_)<;>cbv)|(refine Need.mk ?_ ?_;rotate_left;cbv)|(refine R0 ?_;cbv))
  all_goals try(exfalso;clear hck how hd3 hR3;lia)
  refine LoopThen.mk (C.loopAt (ι:=Nat) [(12,12),(75,88)] (fun i=>[(75,.int .i64 i),(11,.ref 50)]) (fun i=>[(50,.arr 0 none 4 (O.o (Chs.enc O) R3)),(384,.box [.int .i64 kind,.str key,.str to,.sl false 0 false 6 (O.o Doc.enc doc),.sl false 0 false 6 (O.o Doc.enc want),.bool has,.int .i64 n,.int .i64 most,.sl false 0 false 11 (O.o (Ops.enc O) list),.sl false 0 false 2 (O.o (Nms.enc O) docs),.sl false 0 false 4 (O.o (Chs.enc O) news)]),(576,.box [.int .i64 0,.bool false,.nils,.nils,.nils,.int .i64 0,.int .i64 0,.nils]),(768,.box (R2.enc O))])
   (fun i=>i≤N) (fun i=>N-i) (by decide +kernel) (Start.mk z [(50,.nil 4)] [] (by lia) ?_) ?_)
  ·cbv
   (repeat' apply And.intro)<;>first|exact True.intro|exact WkR.refl _|rfl|exact hR3|lia|trace_state
  intro i g1
  cbv
  by_cases hi:i<R3.length
  ·exfalso
   rw[e3] at hi
   simp at hi
  ·clear hd3 hck how hR3
   (repeat' first|(refine Na ?_ fun _ _=>?_;(focus lia);cbv)|(refine RetThen.mk [] [50] ?_;cbv)|(refine Nl fun _ _ hq=>?_;(try simp only [lenS] at hq);cbv)|(refine Nm fun _ _=>?_;cbv)|(refine Br.t ?_ ?_;(focus first|assumption|lia);cbv)|(refine Br.f ?_ ?_;(focus first|assumption|lia);cbv)|(refine Br.mk (fun _=>?_) (fun _=>?_)<;>cbv)|(refine Need.mk ?_ ?_;rotate_left;cbv)|(refine R0 ?_;cbv))
   all_goals(repeat' apply And.intro)
   all_goals first
    | exact True.intro
    | exact WkR.refl _
    | rfl
    | lia
    | (refine Nm fun rs e=>⟨.of_eq e.symm,?_⟩;cbv)
    | (refine WkR.of_eq ?_;symm;assumption)
    | trace_state
end Go.Sym
