/- What is asked, by the document: scan. -/
import Derived.Test.YtfkigahipkndgaaGreatDoorK10
set_option linter.all false
set_option linter.unusedVariables false
set_option linter.unusedSimpArgs false
namespace Go.Sym
open Go Go.Proofs.Tryz
set_option maxRecDepth 100000
theorem scanI_full {l:List Ndoc} {o:Opn} {i:Nat} (h:o.most.toNat≤(scanI l o i).length):scanI l o i=(l.filter (inScan o)).take o.most.toNat:=by
 rw[scanI,List.length_take] at h
 rw[scanI]
 conv=>rhs;rw[← List.take_append_drop i l,List.filter_append,List.take_append_of_le_length (by omega)]
set_option maxHeartbeats 2000000 in
theorem rapply_scan (O : Opq) (l : List Ndoc) (o : Opn) (total : Int) (hl : l.length ≤ 1099511627) (hk : o.kind = 5)
    : Fn prog 153 [.sl false 0 false 2 (O.o (Nms.enc O) l),.agg (o.en O),.int .i64 total] [] [.sl false 0 false 2 (O.o (Nms.enc O) l),.agg ((O.o (scanA l) o).enc O),.sl false 0 false 4 (O.o (Chs.enc O) [])] []:=by
  have hlen:=Nms.len O l
  have h0:O.o Doc.enc []=[]:=by rw[O.h];rfl
  have h1:O.o (Nms.enc O) []=[]:=by rw[O.h];rfl
  have h2:O.o (Chs.enc O) []=[]:=by rw[O.h];rfl
  have h3:O.o Prs.enc []=[]:=by rw[O.h];rfl
  by_cases hb:64<o.key.size∨64<o.to.size∨o.most<1∨24<o.most
  · have hA:O.o (scanA l) o=refA 1:=by rw[O.h,scanA,if_pos hb]
    rw[hA]
    clear hA
    obtain⟨kind,key,to,doc,want,has,n,most,list,docs,news⟩:=o
    replace hb:64<key.size∨64<to.size∨most<1∨24<most:=hb
    replace hk:kind=5:=hk
    refine go (fn:=Proofs.Tryz.f153) (n:=169) (rv:=[ResultVar.tmp 6,ResultVar.cell 7 37,ResultVar.tmp 8]) rfl (by decide) rfl (by decide +kernel) rfl rfl (by simp) fun F L C=>?_
    cbv
    (repeat' first|(refine Na ?_ fun _ _=>?_;(focus lia);cbv)|(refine Nl fun _ _ hq=>?_;(try simp only [lenS] at hq);cbv)|(refine Nm fun _ _=>?_;cbv)|(refine Br.t ?_ ?_;(focus first|assumption|lia);cbv)|(refine Br.f ?_ ?_;(focus first|assumption|lia);cbv)|(refine Br.mk (fun _=>?_) (fun _=>?_)<;>cbv)|(refine Need.mk ?_ ?_;rotate_left;cbv)|(refine R0 ?_;cbv))
    all_goals first
      | (exfalso;lia)
      | ((repeat' apply And.intro)<;>first|rfl|exact WkR.refl _|exact h0|exact h1|exact h2|exact h3|exact True.intro|trace_state)
  · have hA:O.o (scanA l) o=⟨0,false,[],(l.filter (inScan o)).take o.most.toNat,[],0,0,[]⟩:=by rw[O.h,scanA,if_neg hb]
    have hful:∀ i,o.most.toNat≤(scanI l o i).length→O.o (scanR O l o) i=O.o (Nms.enc O) (O.o (scanA l) o).docs:=fun i h=>by rw[hA];simp only [O.h];rw[scanR,scanI_full h]
    have hall:∀ i,l.length≤i→O.o (scanR O l o) i=O.o (Nms.enc O) (O.o (scanA l) o).docs:=fun i h=>by rw[hA];simp only [O.h];rw[scanR,scanI_all h]
    have hA2:(O.o (scanA l) o).code=0∧(O.o (scanA l) o).has=false∧(O.o (scanA l) o).doc=[]∧(O.o (scanA l) o).news=[]∧(O.o (scanA l) o).n=0∧(O.o (scanA l) o).total=0∧(O.o (scanA l) o).keys=[]:=by rw[hA];exact⟨rfl,rfl,rfl,rfl,rfl,rfl,rfl⟩
    obtain⟨A,eA⟩:∃ A,A=O.o (scanA l) o:=⟨_,rfl⟩
    rw[← eA] at hall hful hA2 ⊢
    have hstep:=fun {i:Nat} {x:Ndoc} (h:l[i]?=some x)=>scanI_step (o:=o) h
    have hin:∀ x:Ndoc,inScan o x=true ↔ ¬ slt x.key o.key∧(o.to=ByteArray.empty∨slt x.key o.to):=fun x=>by simp [inScan]
    have hsl:∀ i,(scanI l o i).length≤24:=fun i=>by rw[scanI,List.length_take];omega
    have hrl:∀ i,(O.o (scanR O l o) i).length=(scanI l o i).length:=fun i=>by rw[O.h,scanR,Nms.enc,List.length_map]
    have hrs:∀ i,O.o (scanR O l o) i=O.o (Nms.enc O) (scanI l o i):=fun i=>by simp only [O.h];rfl
    have hz0:∀ z:Nat,z=0→O.o (scanR O l o) z=[]:=fun z h=>by rw[O.h,h];simp [scanR,scanI,Nms.enc]
    obtain⟨SI,eSI⟩:∃ S,S=scanI l o:=⟨_,rfl⟩
    obtain⟨SR,eSR⟩:∃ S,S=O.o (scanR O l o):=⟨_,rfl⟩
    rw[← eSI] at hstep hful hsl hrl hrs
    rw[← eSR] at hall hful hrl hrs hz0
    clear hA eA eSI eSR
    obtain⟨kind,key,to,doc,want,has,n,most,list,docs,news⟩:=o
    replace hk:kind=5:=hk
    replace hful:∀ i,most.toNat≤(SI i).length→O.o SR i=O.o (Nms.enc O) A.docs:=fun i h=>(congrFun (O.h SR) i).trans (hful i h)
    replace hb:¬ (64<key.size∨64<to.size∨most<1∨24<most):=hb
    replace hstep:∀ {i:Nat} {x:Ndoc},l[i]?=some x→SI (i+1)=if inScan (.mk kind key to doc want has n most list docs news) x=true∧(SI i).length<most.toNat then SI i++[x] else SI i:=hstep
    replace hin:∀ x:Ndoc,inScan (.mk kind key to doc want has n most list docs news) x=true ↔ ¬ slt x.key key∧(to=ByteArray.empty∨slt x.key to):=hin
    obtain⟨N,hN⟩:∃ N:Nat,N=l.length:=⟨_,rfl⟩
    obtain⟨z,hz⟩:∃ z:Nat,z=0:=⟨_,rfl⟩
    have hz0:=hz0 z hz
    refine go (fn:=Proofs.Tryz.f153) (n:=169) (rv:=[ResultVar.tmp 6,ResultVar.cell 7 37,ResultVar.tmp 8]) rfl (by decide) rfl (by decide +kernel) rfl rfl (by simp) fun F L C=>?_
    cbv
    (repeat' first|(refine Na ?_ fun _ _=>?_;(focus lia);cbv)|(refine Nl fun _ _ hq=>?_;(try simp only [lenS] at hq);cbv)|(refine Nm fun _ _=>?_;cbv)|(refine Br.t ?_ ?_;(focus first|assumption|lia);cbv)|(refine Br.f ?_ ?_;(focus first|assumption|lia);cbv)|(refine Br.mk (fun _=>?_) (fun _=>?_)<;>cbv)|(refine Need.mk ?_ ?_;rotate_left;cbv)|(refine R0 ?_;cbv))
    all_goals try(exfalso;clear hstep hall;lia)
    refine LoopThen.mk (C.loopAt (ι:=Nat) [(12,12),(122,167)] (fun i=>[(12,.int .i64 i)]) (fun i=>[(50,.arr 0 none 2 (O.o SR i)),(384,.box [.int .i64 kind,.str key,.str to,.sl false 0 false 6 (O.o Doc.enc doc),.sl false 0 false 6 (O.o Doc.enc want),.bool has,.int .i64 n,.int .i64 most,.sl false 0 false 11 (O.o (Ops.enc O) list),.sl false 0 false 2 (O.o (Nms.enc O) docs),.sl false 0 false 4 (O.o (Chs.enc O) news)]),(576,.box [.int .i64 0,.bool false,.nils,.nils,.nils,.int .i64 0,.int .i64 0,.nils]),(832,.box [.int .i64 0,.bool false,.nils,.ref 50,.nils,.int .i64 0,.int .i64 0,.nils])])
      (fun i=>i≤N) (fun i=>N-i) (by decide +kernel) (Start.mk z [(50,.nil 2)] [] (by lia) ?_) ?_)
    · cbv
      (repeat' apply And.intro)<;>first|exact True.intro|exact WkR.refl _|rfl|(rw[← hz0];exact congrFun (O.h SR) z)|lia
    intro i g1
    cbv
    have hoS:∀ i,O.o SR i=SR i:=fun i=>congrFun (O.h SR) i
    have hrl0:=hrl i
    have hsl0:=hsl i
    have hful:=hful i
    rw[← hoS] at hrl0
    by_cases hi:i<l.length
    · obtain⟨x,hx⟩:∃ x,l[i]?=some x:=⟨l[i],by simp [hi]⟩
      have hst:=hstep hx
      have hyes:(¬ slt x.key key∧(to=ByteArray.empty∨slt x.key to))∧(SI i).length<most.toNat→O.o SR (i+1)=O.o SR i++[x.enc O]:=fun h=>by
        rw[if_pos ⟨(hin x).2 h.1,h.2⟩] at hst
        rw[hoS,hoS,hrs,hrs,hst];simp only [O.h];simp [Nms.enc]
      have hno:¬ ((¬ slt x.key key∧(to=ByteArray.empty∨slt x.key to))∧(SI i).length<most.toNat)→O.o SR (i+1)=O.o SR i:=fun h=>by
        rw[if_neg fun k=>h ⟨(hin x).1 k.1,k.2⟩] at hst
        rw[hoS,hoS,hrs,hrs,hst]
      obtain⟨xk,xd⟩:=x
      replace hyes:(¬ slt xk key∧(to=ByteArray.empty∨slt xk to))∧(SI i).length<most.toNat→O.o SR (i+1)=O.o SR i++[Ndoc.enc O ⟨xk,xd⟩]:=hyes
      replace hno:¬ ((¬ slt xk key∧(to=ByteArray.empty∨slt xk to))∧(SI i).length<most.toNat)→O.o SR (i+1)=O.o SR i:=hno
      clear hst hstep hin hall hrl hrs hoS hsl
      (repeat' first|(refine Na ?_ fun _ _=>?_;(focus lia);cbv)|(refine Ex.known O (Ndoc.enc O) rfl hx ?_ ?_;(focus lia);cbv)|(refine Back.up [(50,.loc 10752)] [] ?_ ?_ fun _ _=>?_;rotate_left 2;cbv;refine And.intro ?_ ?_)|(refine Back.up [] [] ?_ ?_ fun _ _=>?_;rotate_left 2;cbv;refine And.intro ?_ ?_)|(refine RetThen.mk [] [50] ?_;cbv)|(refine Nl fun _ _ hq=>?_;(try simp only [lenS] at hq);cbv)|(refine Nm fun _ _=>?_;cbv)|(refine Br.t ?_ ?_;(focus first|assumption|lia);cbv)|(refine Br.f ?_ ?_;(focus first|assumption|lia);cbv)|(refine Br.mk (fun _=>?_) (fun _=>?_)<;>cbv)|(refine Need.mk ?_ ?_;rotate_left;cbv)|(refine R0 ?_;cbv))
      all_goals try (refine ⟨WkR.refl _, hA2.1, hA2.2.1, ?_, Named.mk fun rs e => ⟨.of_eq ?_, ?_⟩⟩
                     · exact(congrArg (O.o Doc.enc) hA2.2.2.1).trans h0
                     · rw[e];symm;exact hful (by clear hx hyes hno;lia)
                     · cbv
                       obtain⟨_,_,_,k1,k2,k3,k4⟩:=hA2
                       refine⟨?_,k2,k3,?_,?_⟩
                       · exact(congrArg (O.o (Chs.enc O)) k1).trans h2
                       · exact(congrArg (O.o Prs.enc) k4).trans h3
                       · first|exact⟨h2,trivial⟩|trace_state)
      all_goals(repeat' apply And.intro)
      all_goals try first
        | exact True.intro
        | exact WkR.refl _
        | (clear hx hyes hno;lia)
        | (simp only [List.length_cons,List.length_nil];clear hx hyes hno;lia)
      all_goals
        refine WkR.of_eq ?_
        rename_i y ey
        subst ey
      all_goals first
        | (refine (hyes ⟨⟨by assumption, ?_⟩, ?_⟩).trans ?_
           · first
               | exact .inl (by assumption)
               | exact .inr (by assumption)
           · clear hx hyes hno;lia
           · symm;assumption)
        | (refine hno fun h => ?_
           first
             | exact h.1.1 (by assumption)
             | (have h2:=h.2;clear hx hyes hno h;lia)
             | (rcases h.1.2 with h | h
                · exact absurd h (by assumption)
                · exact absurd h (by assumption)))
        | trace_state
    · have hall:=hall i (by omega)
      rw[← hoS] at hall
      clear hstep hin hrl hrs hsl
      (repeat' first|(refine Na ?_ fun _ _=>?_;(focus lia);cbv)|(refine RetThen.mk [] [50] ?_;cbv)|(refine Nl fun _ _ hq=>?_;(try simp only [lenS] at hq);cbv)|(refine Nm fun _ _=>?_;cbv)|(refine Br.t ?_ ?_;(focus first|assumption|lia);cbv)|(refine Br.f ?_ ?_;(focus first|assumption|lia);cbv)|(refine Br.mk (fun _=>?_) (fun _=>?_)<;>cbv)|(refine Need.mk ?_ ?_;rotate_left;cbv)|(refine R0 ?_;cbv))
      all_goals try(exfalso;clear hall;lia)
      (refine⟨WkR.refl _,hA2.1,hA2.2.1,?_,Named.mk fun rs e=>⟨.of_eq ?_,?_⟩⟩
       · exact(congrArg (O.o Doc.enc) hA2.2.2.1).trans h0
       · rw[e];symm;exact hall
       · cbv
         obtain⟨_,_,_,k1,k2,k3,k4⟩:=hA2
         refine⟨?_,k2,k3,?_,?_⟩
         · exact(congrArg (O.o (Chs.enc O)) k1).trans h2
         · exact(congrArg (O.o Prs.enc) k4).trans h3
         · first|exact⟨h2,trivial⟩|trace_state)
end Go.Sym
