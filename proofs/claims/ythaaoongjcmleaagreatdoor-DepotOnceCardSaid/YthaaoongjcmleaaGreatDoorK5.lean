/- Some that turn documents; what is scanned. -/
import Derived.Test.YthaaoongjcmleaaGreatDoorK4
set_option linter.all false
set_option linter.unusedVariables false
set_option linter.unusedSimpArgs false
namespace Go.Sym
open Go Go.Proofs.Tryz
set_option maxRecDepth 100000
theorem writes_fn (O:Opq) (o:Opn):Fn prog 126 [.agg (o.en O)] [] [.bool (O.o writesB o)] []:=by
 have hy:o.kind=1∨o.kind=2∨o.kind=3→O.o writesB o=true:=fun h=>by rw[O.h,writesB];exact decide_eq_true h
 have hn:¬ (o.kind=1∨o.kind=2∨o.kind=3)→O.o writesB o=false:=fun h=>by rw[O.h,writesB];exact decide_eq_false h
 obtain⟨Q,eQ⟩:∃ Q,Q=O.o writesB o:=⟨_,rfl⟩
 rw[← eQ] at hy hn ⊢
 clear eQ
 obtain⟨kind,key,to,doc,want,has,n,most,list,docs,news⟩:=o
 replace hy:kind=1∨kind=2∨kind=3→Q=true:=hy
 replace hn:¬ (kind=1∨kind=2∨kind=3)→Q=false:=hn
 refine go (fn:=Proofs.Tryz.f126) (n:=15) (rv:=[ResultVar.tmp 2]) rfl (by decide) rfl (by decide +kernel) rfl rfl (by simp) fun F L C=>?_
 cbv
 (repeat' first|(refine Na ?_ fun _ _=>?_;(focus lia);cbv)|(refine Nl fun _ _ hq=>?_;(try simp only [lenS] at hq);cbv)|(refine Nm fun _ _=>?_;cbv)|(refine Br.t ?_ ?_;(focus first|assumption|lia);cbv)|(refine Br.f ?_ ?_;(focus first|assumption|lia);cbv)|(refine Br.mk (fun _=>?_) (fun _=>?_)<;>cbv)|(refine Need.mk ?_ ?_;rotate_left;cbv)|(refine R0 ?_;cbv))
 all_goals first
  | exact⟨hy (by clear hy hn;lia),trivial⟩
  | exact⟨hn (by clear hy hn;lia),trivial⟩
  | trace_state
theorem batch1_fn (O:Opq) (o:Opn):Fn prog 145 [.agg (o.en O)] [] [.bool (O.o notWrites o)] []:=by
 have h:=writes_fn O o
 have hq:O.o notWrites o=!(O.o writesB o):=by simp only [O.h];rfl
 rw[hq]
 obtain⟨B,eB⟩:∃ B,B=O.o writesB o:=⟨_,rfl⟩
 rw[← eB] at h ⊢
 clear hq eB
 obtain⟨kind,key,to,doc,want,has,n,most,list,docs,news⟩:=o
 cases B
 all_goals
  refine go (fn:=Proofs.Tryz.f145) (n:=5) (rv:=[ResultVar.tmp 2]) rfl (by decide) rfl (by decide +kernel) rfl rfl (by simp) fun F L C=>?_
  cbv
  (repeat' first|(refine Na ?_ fun _ _=>?_;(focus lia);cbv)|(refine CallThen.mk _ _ (C.fn (h)) ?_;cbv)|(refine Nl fun _ _ hq=>?_;(try simp only [lenS] at hq);cbv)|(refine Nm fun _ _=>?_;cbv)|(refine Br.t ?_ ?_;(focus first|assumption|lia);cbv)|(refine Br.f ?_ ?_;(focus first|assumption|lia);cbv)|(refine Br.mk (fun _=>?_) (fun _=>?_)<;>cbv)|(refine Need.mk ?_ ?_;rotate_left;cbv)|(refine R0 ?_;cbv))
theorem idxOp_fn (O:Opq) (l:List Opn) (r:List (List PV)) (er:r=O.o (Ops.enc O) l) (hl:l.length≤1099511627776):Fn prog 176 [.sl true 0 false 11 r,.fn 145 [] []] [] [.int .i64 (O.o (findI notWrites) l)] []:=by
 subst er
 have hlen:=Ops.len O l
 obtain⟨N,hN⟩:∃ N:Nat,N=l.length:=⟨_,rfl⟩
 obtain⟨z,hz⟩:∃ z:Nat,z=0:=⟨_,rfl⟩
 refine go (fn:=Proofs.Tryz.f176) (n:=17) (rv:=[ResultVar.tmp 4]) rfl (by decide) rfl (by decide +kernel) rfl rfl (by simp) fun F L C=>?_
 cbv
 (repeat' first|(refine Na ?_ fun _ _=>?_;(focus lia);cbv)|(refine Nl fun _ _ hq=>?_;(try simp only [lenS] at hq);cbv)|(refine Nm fun _ _=>?_;cbv)|(refine Br.t ?_ ?_;(focus first|assumption|lia);cbv)|(refine Br.f ?_ ?_;(focus first|assumption|lia);cbv)|(refine Br.mk (fun _=>?_) (fun _=>?_)<;>cbv)|(refine Need.mk ?_ ?_;rotate_left;cbv)|(refine R0 ?_;cbv))
 refine LoopThen.mk (C.loopAt (ι:=Nat) [(4,5),(8,18)] (fun k=>[(4,.int .i64 0),(8,.int .i64 k)]) (fun _=>[])
  (fun k=>k≤N∧∀ (j:Nat) y,j<k→l[j]?=some y→notWrites y=false) (fun k=>N-k) (by decide +kernel) (Start.mk z [] [] ⟨by lia,fun j y hj=>by omega⟩ (by cbv;(repeat' apply And.intro)<;>first|exact True.intro|exact WkR.refl _|rfl|lia)) ?_)
 intro k g
 cbv
 have g1:k≤N:=g.1
 have g2:=g.2
 clear g
 by_cases hk:k<l.length
 ·obtain⟨x,hx⟩:∃ x,l[k]?=some x:=⟨l[k],by simp [hk]⟩
  have hc:=batch1_fn O x
  have hyes:O.o notWrites x=true→O.o (findI notWrites) l=k:=fun h=>by simp only [O.h] at h ⊢;exact findI_at hx h g2
  have hst:O.o notWrites x=false→∀ (j:Nat) y,j<k+1→l[j]?=some y→notWrites y=false:=fun h=>by rw[O.h] at h;exact srch_step g2 hx h
  clear g2
  (repeat' first|(refine Na ?_ fun _ _=>?_;(focus lia);cbv)|(refine Ex.opn O hx ?_ ?_;(focus lia);cbv)|(refine CallThen.bool (C.fn (hc)) (fun _=>?_) (fun _=>?_)<;>cbv)|(refine Back.up [] [] ?_ ?_ fun _ _=>?_;rotate_left 2;cbv;refine And.intro ?_ ?_)|(refine Nl fun _ _ hq=>?_;(try simp only [lenS] at hq);cbv)|(refine Nm fun _ _=>?_;cbv)|(refine Br.t ?_ ?_;(focus first|assumption|lia);cbv)|(refine Br.f ?_ ?_;(focus first|assumption|lia);cbv)|(refine Br.mk (fun _=>?_) (fun _=>?_)<;>cbv)|(refine Need.mk ?_ ?_;rotate_left;cbv)|(refine R0 ?_;cbv))
  all_goals(repeat' apply And.intro)
  all_goals first
   | exact True.intro
   | exact WkR.refl _
   | (clear hx hc hyes hst;lia)
   | exact hyes (by assumption)
   | exact hst (by assumption)
   | trace_state
 ·have hn:O.o (findI notWrites) l=-1:=by rw[O.h];exact findI_none fun j y hj=>g2 j y (by omega)
  clear g2
  (repeat' first|(refine Na ?_ fun _ _=>?_;(focus lia);cbv)|(refine Nl fun _ _ hq=>?_;(try simp only [lenS] at hq);cbv)|(refine Nm fun _ _=>?_;cbv)|(refine Br.t ?_ ?_;(focus first|assumption|lia);cbv)|(refine Br.f ?_ ?_;(focus first|assumption|lia);cbv)|(refine Br.mk (fun _=>?_) (fun _=>?_)<;>cbv)|(refine Need.mk ?_ ?_;rotate_left;cbv)|(refine R0 ?_;cbv))
  all_goals first
   | exact⟨hn,trivial⟩
   | (exfalso;lia)
   | trace_state
theorem contOp_fn (O:Opq) (l:List Opn) (r:List (List PV)) (er:r=O.o (Ops.enc O) l) (hl:l.length≤1099511627776):Fn prog 144 [.sl true 0 false 11 r,.fn 145 [] []] [] [.bool (O.o (List.any l) notWrites)] []:=by
  have hi:=idxOp_fn O l r er hl
  have hq:0≤O.o (findI notWrites) l ↔ O.o (List.any l) notWrites=true:=by simp only [O.h];exact findI_ge
  obtain⟨w,hw⟩:∃ w,w=O.o (findI notWrites) l:=⟨_,rfl⟩
  obtain⟨B,eB⟩:∃ w,w=O.o (List.any l) notWrites:=⟨_,rfl⟩
  rw[← hw] at hi hq
  rw[← eB] at hq ⊢
  clear hw eB er
  refine go (fn:=Proofs.Tryz.f144) (n:=7) (rv:=[ResultVar.tmp 4]) rfl (by decide) rfl (by decide +kernel) rfl rfl (by simp) fun F L C=>?_
  cbv
  (repeat' first|(refine Na ?_ fun _ _=>?_;(focus lia);cbv)|(refine CallThen.mk _ _ (C.fn (hi)) ?_;cbv)|(refine Nl fun _ _ hq=>?_;(try simp only [lenS] at hq);cbv)|(refine Nm fun _ _=>?_;cbv)|(refine Br.t ?_ ?_;(focus first|assumption|lia);cbv)|(refine Br.f ?_ ?_;(focus first|assumption|lia);cbv)|(refine Br.mk (fun _=>?_) (fun _=>?_)<;>cbv)|(refine Need.mk ?_ ?_;rotate_left;cbv)|(refine R0 ?_;cbv))
  all_goals first
    | (refine⟨hq.1 ?_,trivial⟩;assumption)
    | (refine ⟨?_, trivial⟩
       cases hb:B with
       | false=>rfl
       | true=>exact absurd (hq.2 hb) (by assumption))
    | trace_state
noncomputable def scanI (l:List Ndoc) (o:Opn) (i:Nat):List Ndoc:=((l.take i).filter (inScan o)).take o.most.toNat
theorem scanI_step {l:List Ndoc} {o:Opn} {i:Nat} {x:Ndoc} (h:l[i]?=some x):scanI l o (i+1)=if inScan o x=true∧(scanI l o i).length<o.most.toNat then scanI l o i++[x] else scanI l o i:=by
 rw[scanI,List.take_add_one,h,List.filter_append]
 show(_++List.filter (inScan o) [x]).take _=_
 rw[scanI,List.length_take]
 by_cases hx:inScan o x=true
 ·rw[List.filter_cons_of_pos hx,List.filter_nil,List.take_append]
  split
  ·rename_i h1
   rw[List.take_of_length_le (l:=[x]) (by simp;omega)]
  ·rename_i h1
   have:o.most.toNat≤(List.filter (inScan o) (l.take i)).length:=by
    by_cases h2:o.most.toNat≤(List.filter (inScan o) (l.take i)).length
    ·exact h2
    ·exact absurd ⟨hx,by omega⟩ h1
   rw[Nat.sub_eq_zero_of_le this];simp
 ·rw[List.filter_cons_of_neg hx,List.filter_nil,List.append_nil,if_neg (fun h=>hx h.1)]
theorem scanI_all {l:List Ndoc} {o:Opn} {i:Nat} (h:l.length≤i):scanI l o i=(l.filter (inScan o)).take o.most.toNat:=by
 rw[scanI,List.take_of_length_le h]
noncomputable def scanR (O:Opq) (l:List Ndoc) (o:Opn) (i:Nat):List (List PV):=Nms.enc O (scanI l o i)
set_option maxHeartbeats 1000000 in
theorem scan_fn (O:Opq) (l:List Ndoc) (o:Opn) (hl:l.length≤1099511627) (hd:∀ n∈l,n.doc.length≤1099511627):Fn prog 128 [.sl false 0 false 2 (O.o (Nms.enc O) l),.agg (o.en O)] [] [.agg ((O.o (scanA l) o).enc O)] []:=by
  have hlen:=Nms.len O l
  have h0:O.o Doc.enc []=[]:=by rw[O.h];rfl
  have h1:O.o (Nms.enc O) []=[]:=by rw[O.h];rfl
  have h2:O.o (Chs.enc O) []=[]:=by rw[O.h];rfl
  have h3:O.o Prs.enc []=[]:=by rw[O.h];rfl
  have how:Fn prog 125 [.sl false 0 false 2 (O.o (Nms.enc O) l)] [] [.sl false 0 false 2 (O.o (Nms.enc O) l)] []:=(ownNW_fn O l hl hd).wkA (.cons (.lend rfl) .nil)
  by_cases hb:64<o.key.size∨64<o.to.size∨o.most<1∨24<o.most
  · have hA:O.o (scanA l) o=refA 1:=by rw[O.h,scanA,if_pos hb]
    rw[hA]
    clear hA hd
    obtain⟨kind,key,to,doc,want,has,n,most,list,docs,news⟩:=o
    replace hb:64<key.size∨64<to.size∨most<1∨24<most:=hb
    refine go (fn:=Proofs.Tryz.f128) (n:=67) (rv:=[ResultVar.cell 4 61]) rfl (by decide) rfl (by decide +kernel) rfl rfl (by simp) fun F L C=>?_
    cbv
    (repeat' first|(refine Na ?_ fun _ _=>?_;(focus lia);cbv)|(refine CallThen.mk _ _ (C.fn (refused_fn O _)) ?_;cbv)|(refine CallThen.mk _ _ (C.fn (how)) ?_;cbv)|(refine Nl fun _ _ hq=>?_;(try simp only [lenS] at hq);cbv)|(refine Nm fun _ _=>?_;cbv)|(refine Br.t ?_ ?_;(focus first|assumption|lia);cbv)|(refine Br.f ?_ ?_;(focus first|assumption|lia);cbv)|(refine Br.mk (fun _=>?_) (fun _=>?_)<;>cbv)|(refine Need.mk ?_ ?_;rotate_left;cbv)|(refine R0 ?_;cbv))
    all_goals first
      | (exfalso;lia)
      | ((repeat' apply And.intro)<;>first|rfl|exact WkR.refl _|exact h0|exact h1|exact h2|exact h3|exact True.intro|trace_state)
  · have hA:O.o (scanA l) o=⟨0,false,[],(l.filter (inScan o)).take o.most.toNat,[],0,0,[]⟩:=by rw[O.h,scanA,if_neg hb]
    have hall:∀ i,l.length≤i→O.o (scanR O l o) i=O.o (Nms.enc O) (O.o (scanA l) o).docs:=fun i h=>by rw[hA];simp only [O.h];rw[scanR,scanI_all h]
    have hA2:(O.o (scanA l) o).code=0∧(O.o (scanA l) o).has=false∧(O.o (scanA l) o).doc=[]∧(O.o (scanA l) o).news=[]∧(O.o (scanA l) o).n=0∧(O.o (scanA l) o).total=0∧(O.o (scanA l) o).keys=[]:=by rw[hA];exact⟨rfl,rfl,rfl,rfl,rfl,rfl,rfl⟩
    obtain⟨A,eA⟩:∃ A,A=O.o (scanA l) o:=⟨_,rfl⟩
    rw[← eA] at hall hA2 ⊢
    have hstep:=fun {i:Nat} {x:Ndoc} (h:l[i]?=some x)=>scanI_step (o:=o) h
    have hin:∀ x:Ndoc,inScan o x=true ↔ ¬ slt x.key o.key∧(o.to=ByteArray.empty∨slt x.key o.to):=fun x=>by simp [inScan]
    have hsl:∀ i,(scanI l o i).length≤24:=fun i=>by rw[scanI,List.length_take];omega
    have hrl:∀ i,(O.o (scanR O l o) i).length=(scanI l o i).length:=fun i=>by rw[O.h,scanR,Nms.enc,List.length_map]
    have hrs:∀ i,O.o (scanR O l o) i=O.o (Nms.enc O) (scanI l o i):=fun i=>by simp only [O.h];rfl
    have hz0:∀ z:Nat,z=0→O.o (scanR O l o) z=[]:=fun z h=>by rw[O.h,h];simp [scanR,scanI,Nms.enc]
    obtain⟨SI,eSI⟩:∃ S,S=scanI l o:=⟨_,rfl⟩
    obtain⟨SR,eSR⟩:∃ S,S=O.o (scanR O l o):=⟨_,rfl⟩
    rw[← eSI] at hstep hsl hrl hrs
    rw[← eSR] at hall hrl hrs hz0
    clear hd hA eA eSI eSR
    obtain⟨kind,key,to,doc,want,has,n,most,list,docs,news⟩:=o
    replace hb:¬ (64<key.size∨64<to.size∨most<1∨24<most):=hb
    replace hstep:∀ {i:Nat} {x:Ndoc},l[i]?=some x→SI (i+1)=if inScan (.mk kind key to doc want has n most list docs news) x=true∧(SI i).length<most.toNat then SI i++[x] else SI i:=hstep
    replace hin:∀ x:Ndoc,inScan (.mk kind key to doc want has n most list docs news) x=true ↔ ¬ slt x.key key∧(to=ByteArray.empty∨slt x.key to):=hin
    obtain⟨N,hN⟩:∃ N:Nat,N=l.length:=⟨_,rfl⟩
    obtain⟨z,hz⟩:∃ z:Nat,z=0:=⟨_,rfl⟩
    have hz0:=hz0 z hz
    refine go (fn:=Proofs.Tryz.f128) (n:=67) (rv:=[ResultVar.cell 4 61]) rfl (by decide) rfl (by decide +kernel) rfl rfl (by simp) fun F L C=>?_
    cbv
    (repeat' first|(refine Na ?_ fun _ _=>?_;(focus lia);cbv)|(refine CallThen.mk _ _ (C.fn (refused_fn O _)) ?_;cbv)|(refine CallThen.mk _ _ (C.fn (how)) ?_;cbv)|(refine Nl fun _ _ hq=>?_;(try simp only [lenS] at hq);cbv)|(refine Nm fun _ _=>?_;cbv)|(refine Br.t ?_ ?_;(focus first|assumption|lia);cbv)|(refine Br.f ?_ ?_;(focus first|assumption|lia);cbv)|(refine Br.mk (fun _=>?_) (fun _=>?_)<;>cbv)|(refine Need.mk ?_ ?_;rotate_left;cbv)|(refine R0 ?_;cbv))
    all_goals try(exfalso;clear hstep hall how;lia)
    refine LoopThen.mk (C.loopAt (ι:=Nat) [(7,7),(32,67)] (fun i=>[(32,.int .i64 i)]) (fun i=>[(50,.arr 0 none 2 (O.o SR i)),(320,.box [.int .i64 kind,.str key,.str to,.sl false 0 false 6 (O.o Doc.enc doc),.sl false 0 false 6 (O.o Doc.enc want),.bool has,.int .i64 n,.int .i64 most,.sl false 0 false 11 (O.o (Ops.enc O) list),.sl false 0 false 2 (O.o (Nms.enc O) docs),.sl false 0 false 4 (O.o (Chs.enc O) news)]),(384,.box [.int .i64 0,.bool false,.nils,.nils,.nils,.int .i64 0,.int .i64 0,.nils]),(448,.box [.int .i64 0,.bool false,.nils,.ref 50,.nils,.int .i64 0,.int .i64 0,.nils])])
      (fun i=>i≤N) (fun i=>N-i) (by decide +kernel) (Start.mk z [(50,.nil 2)] [] (by lia) ?_) ?_)
    · cbv
      (repeat' apply And.intro)<;>first|exact True.intro|exact WkR.refl _|rfl|(rw[← hz0];exact congrFun (O.h SR) z)|lia
    intro i g1
    cbv
    have hoS:∀ i,O.o SR i=SR i:=fun i=>congrFun (O.h SR) i
    have hrl0:=hrl i
    have hsl0:=hsl i
    rw[← hoS] at hrl0
    by_cases hi:i<l.length
    · obtain⟨x,hx⟩:∃ x,l[i]?=some x:=⟨l[i],by simp [hi]⟩
      have hst:=hstep hx
      have hyes:(¬ slt x.key key∧(to=ByteArray.empty∨slt x.key to))∧(SI i).length<most.toNat→O.o SR (i+1)=O.o SR i++[x.enc O]:=fun h=>by
        rw[if_pos ⟨(hin x).2 h.1,h.2⟩] at hst
        rw[hoS,hoS,hrs,hrs,hst];simp only [O.h];simp [Nms.enc]
      have hno:¬ ((¬ slt x.key key∧(to=ByteArray.empty∨slt x.key to))∧(SI i).length<most.toNat)→O.o SR (i+1)=O.o SR i:=fun h=>by
        rw[if_neg fun k=>h ⟨(hin x).1 k.1,k.2⟩] at hst
        rw[hoS,hoS,hrs,hrs,hst]
      obtain⟨xk,xd⟩:=x
      replace hyes:(¬ slt xk key∧(to=ByteArray.empty∨slt xk to))∧(SI i).length<most.toNat→O.o SR (i+1)=O.o SR i++[Ndoc.enc O ⟨xk,xd⟩]:=hyes
      replace hno:¬ ((¬ slt xk key∧(to=ByteArray.empty∨slt xk to))∧(SI i).length<most.toNat)→O.o SR (i+1)=O.o SR i:=hno
      clear hst hstep hin hall hrl hrs hoS how hsl
      (repeat' first|(refine Na ?_ fun _ _=>?_;(focus lia);cbv)|(refine Ex.known O (Ndoc.enc O) rfl hx ?_ ?_;(focus lia);cbv)|(refine Back.up [(50,.loc 4288)] [] ?_ ?_ fun _ _=>?_;rotate_left 2;cbv;refine And.intro ?_ ?_)|(refine Back.up [] [] ?_ ?_ fun _ _=>?_;rotate_left 2;cbv;refine And.intro ?_ ?_)|(refine Nl fun _ _ hq=>?_;(try simp only [lenS] at hq);cbv)|(refine Nm fun _ _=>?_;cbv)|(refine Br.t ?_ ?_;(focus first|assumption|lia);cbv)|(refine Br.f ?_ ?_;(focus first|assumption|lia);cbv)|(refine Br.mk (fun _=>?_) (fun _=>?_)<;>cbv)|(refine Need.mk ?_ ?_;rotate_left;cbv)|(refine R0 ?_;cbv))
      all_goals(repeat' apply And.intro)
      all_goals try first
        | exact True.intro
        | exact WkR.refl _
        | (clear hx hyes hno;lia)
        | (simp only [List.length_cons,List.length_nil];clear hx hyes hno;lia)
      all_goals
        refine WkR.of_eq ?_
        rename_i y ey
        subst ey
      all_goals first
        | (refine (hyes ⟨⟨by assumption, ?_⟩, ?_⟩).trans ?_
           · first
               | exact .inl (by assumption)
               | exact .inr (by assumption)
           · clear hx hyes hno;lia
           · symm;assumption)
        | (refine hno fun h => ?_
           first
             | exact h.1.1 (by assumption)
             | (have h2:=h.2;clear hx hyes hno h;lia)
             | (rcases h.1.2 with h | h
                · exact absurd h (by assumption)
                · exact absurd h (by assumption)))
        | trace_state
    · have hall:=hall i (by omega)
      rw[← hoS] at hall
      clear hstep hin hrl hrs how hsl
      (repeat' first|(refine Na ?_ fun _ _=>?_;(focus lia);cbv)|(refine RetThen.mk [] [50] ?_;cbv)|(refine Nl fun _ _ hq=>?_;(try simp only [lenS] at hq);cbv)|(refine Nm fun _ _=>?_;cbv)|(refine Br.t ?_ ?_;(focus first|assumption|lia);cbv)|(refine Br.f ?_ ?_;(focus first|assumption|lia);cbv)|(refine Br.mk (fun _=>?_) (fun _=>?_)<;>cbv)|(refine Need.mk ?_ ?_;rotate_left;cbv)|(refine R0 ?_;cbv))
      all_goals try(exfalso;clear hall;lia)
      refine⟨hA2.1,hA2.2.1,?_,Named.mk fun rs e=>⟨.of_eq ?_,?_⟩⟩
      · exact(congrArg (O.o Doc.enc) hA2.2.2.1).trans h0
      · rw[e];exact hall.symm
      · cbv
        obtain⟨_,_,_,k1,k2,k3,k4⟩:=hA2
        refine⟨?_,k2,k3,?_,trivial⟩
        · exact(congrArg (O.o (Chs.enc O)) k1).trans h2
        · exact(congrArg (O.o Prs.enc) k4).trans h3
end Go.Sym
