/- What is written, by the document. -/
import Derived.Test.YtfkigahipkndgaaGreatDoorK4
set_option linter.all false
set_option linter.unusedVariables false
set_option linter.unusedSimpArgs false
namespace Go.Sym
open Go Go.Proofs.Tryz
set_option maxRecDepth 100000
def zeroCh:Change:=⟨0,ByteArray.empty,false,[]⟩
noncomputable def writeQ (l:List Ndoc) (o:Opn):Change:=if (writeA l o).code=0 then writeC o else zeroCh
open Classical in
set_option maxHeartbeats 4000000 in
theorem rwrite_fn (O : Opq) (l : List Ndoc) (o : Opn) (hl : l.length ≤ 1099511627) (hs : sortedK Ndoc.key l) (hd : ∀ n ∈ l, n.doc.length ≤ 1099511627) (hod : o.doc.length ≤ 1099511627 ∧ ∀ f ∈ o.doc, f.path.size ≤ 9223372036854775807) (how : o.want.length ≤ 1099511627 ∧ ∀ f ∈ o.want, f.path.size ≤ 9223372036854775807) :
    Fn prog 242 [.sl false 0 false 2 (O.o (Nms.enc O) l),.agg (o.en O)] [] [.agg ((O.o (writeA l) o).enc O),.agg ((O.o (writeQ l) o).enc O)] []:=by
  have hlen:=Nms.len O l
  have h0:O.o Doc.enc []=[]:=by rw[O.h];rfl
  have h1:O.o (Nms.enc O) []=[]:=by rw[O.h];rfl
  have h2:O.o (Chs.enc O) []=[]:=by rw[O.h];rfl
  have h3:O.o Prs.enc []=[]:=by rw[O.h];rfl
  have hst:=r12at_fn O l o.key (by omega)
  have hck:=may_fn O o.doc (by omega) hod.2
  have hcw:=may_fn O o.want (by omega) how.2
  have hlt:=r12light_fn O o.doc (by omega) hod.2
  have hkf:=rkey_fn O o.key
  have hA:O.o (writeA l) o=if O.o isKey o.key=false then refA 1
    else if o.kind=2 then(if getK Ndoc.key l o.key=true then ans0 else refA 4)
    else if O.o may o.doc=false∨(o.kind=3∧o.has=true∧O.o may o.want=false) then refA 1
    else if o.kind=3∧(getK Ndoc.key l o.key≠o.has∨(o.has=true∧O.o sameDoc (docAt l o.key) o.want=false)) then { standA l o.key with code:=7 }
    else if O.o lightD o.doc=false then refA 3
    else if getK Ndoc.key l o.key=false∧l.length=24 then refA 2
    else ans0:=by
    simp only [O.h]
    have e2:sameDoc (docAt l o.key) o.want=false ↔ docAt l o.key≠o.want:=by simp [sameDoc]
    rw[writeA]
    simp only [e2,casBad,decide_eq_true_eq]
  have hP:O.o (writeQ l) o=if (O.o (writeA l) o).code=0 then writeC o else zeroCh:=by simp only [O.h];rfl
  have hsm:=fun h=>rsame_fn O (docAt l o.key) o.want h
  have hst2:getK Ndoc.key l o.key=true→standA l o.key=⟨0,true,docAt l o.key,[],[],0,0,[]⟩:=fun h=>by rw[standA,if_pos h]
  have hst3:getK Ndoc.key l o.key=false→standA l o.key=ans0:=fun h=>by rw[standA,if_neg (by simp [h])]
  have hfi:O.o (findI (hasK Ndoc.key o.key)) l=if getK Ndoc.key l o.key=true then(posK Ndoc.key l o.key:Int) else -1:=by rw[O.h];exact findI_hasK hs
  have hat:getK Ndoc.key l o.key=true→∃ x,l[posK Ndoc.key l o.key]?=some x∧docAt l o.key=x.doc:=fun h=>by
    obtain⟨x,hx,_⟩:=posK_there hs h
    exact⟨x,hx,docAt_at hx⟩
  have hdl:(docAt l o.key).length≤1099511627776:=by
    unfold docAt;split
    · rename_i n hn;have:=hd n (List.mem_of_getElem? hn);omega
    · simp
  have hsm:=hsm hdl
  obtain⟨D,eD⟩:∃ D,D=docAt l o.key:=⟨_,rfl⟩
  obtain⟨A,eA⟩:∃ A,A=O.o (writeA l) o:=⟨_,rfl⟩
  obtain⟨P,eP⟩:∃ A,A=O.o (writeQ l) o:=⟨_,rfl⟩
  obtain⟨bk,ebk⟩:∃ A,A=O.o isKey o.key:=⟨_,rfl⟩
  obtain⟨e1,ee1⟩:∃ A,A=O.o may o.doc:=⟨_,rfl⟩
  obtain⟨e2,ee2⟩:∃ A,A=O.o may o.want:=⟨_,rfl⟩
  rw[← eD] at hA hsm hst2 hat
  obtain⟨S,eS⟩:∃ A,A=O.o sameDoc D o.want:=⟨_,rfl⟩
  obtain⟨L2,eL⟩:∃ A,A=O.o lightD o.doc:=⟨_,rfl⟩
  obtain⟨g,eg⟩:∃ A,A=getK Ndoc.key l o.key:=⟨_,rfl⟩
  obtain⟨W,eW⟩:∃ A,A=standA l o.key:=⟨_,rfl⟩
  obtain⟨w,ew⟩:∃ A,A=O.o (findI (hasK Ndoc.key o.key)) l:=⟨_,rfl⟩
  obtain⟨ps,eps⟩:∃ A,A=posK Ndoc.key l o.key:=⟨_,rfl⟩
  rw[← eA,← ebk,← ee1,← ee2,← eS,← eL,← eg,← eW] at hA
  rw[← eA,← eP] at hP
  rw[← eA,← eP]
  rw[← ew] at hst
  rw[← ew,← eg,← eps] at hfi
  rw[← eg,← eps] at hat
  rw[← ee1] at hck
  rw[← ee2] at hcw
  rw[← eL] at hlt
  rw[← ebk] at hkf
  rw[← eS] at hsm
  rw[← eg,← eW] at hst2 hst3
  have hC2:o.kind=2→writeC o=⟨0,o.key,false,[]⟩:=fun h=>by rw[writeC,if_pos h]
  have hC1:o.kind≠2→writeC o=⟨0,o.key,true,o.doc⟩:=fun h=>by rw[writeC,if_neg h]
  obtain⟨C0,eC0⟩:∃ C,C=writeC o:=⟨_,rfl⟩
  rw[← eC0] at hP hC2 hC1
  clear eC0 eD eA eP ebk ee1 ee2 eS eL eg eW ew eps hd hs hdl hod how
  obtain⟨kind,key,to,doc,want,has,n,most,list,docs,news⟩:=o
  replace hA:A=if bk=false then refA 1 else if kind=2 then(if g=true then ans0 else refA 4) else if e1=false∨(kind=3∧has=true∧e2=false) then refA 1 else if kind=3∧(g≠has∨(has=true∧S=false)) then { W with code:=7 } else if L2=false then refA 3 else if g=false∧l.length=24 then refA 2 else ans0:=hA
  replace hC2:kind=2→C0=⟨0,key,false,[]⟩:=hC2
  replace hC1:kind≠2→C0=⟨0,key,true,doc⟩:=hC1
  replace hck:Fn prog 85 [.sl false 0 false 6 (O.o Doc.enc doc)] [] [.bool e1] []:=hck
  replace hcw:Fn prog 85 [.sl false 0 false 6 (O.o Doc.enc want)] [] [.bool e2] []:=hcw
  cases g with
  | false =>
    have hW:=hst3 rfl
    have hw1:w=-1:=hfi
    clear hst2 hst3 hat hfi
    subst hW
    by_cases hN:l.length=24
    all_goals
      by_cases hk2:kind=2
      · have hC:=hC2 hk2
        clear hC1 hC2
        cases has
        all_goals
          refine go (fn:=Proofs.Tryz.f242) (n:=111) (rv:=[ResultVar.cell 4 37,ResultVar.cell 5 78]) rfl (by decide) rfl (by decide +kernel) rfl rfl (by simp) fun F L C=>?_
          cbv
          (repeat' first|(refine Na ?_ fun _ _=>?_;(focus lia);cbv)|(refine CallThen.mk _ _ (C.fn (hst)) ?_;cbv)|(refine CallThen.bool (C.fn (hkf)) (fun _=>?_) (fun _=>?_)<;>cbv)|(refine CallThen.bool (C.fn (hck)) (fun _=>?_) (fun _=>?_)<;>cbv)|(refine CallThen.bool (C.fn (hcw)) (fun _=>?_) (fun _=>?_)<;>cbv)|(refine CallThen.bool (C.fn (hlt)) (fun _=>?_) (fun _=>?_)<;>cbv)|(refine CallThen.bool (C.fn (hsm)) (fun _=>?_) (fun _=>?_)<;>cbv)|(fail)|(refine Nl fun _ _ hq=>?_;(try simp only [lenS] at hq);cbv)|(refine Nm fun _ _=>?_;cbv)|(refine Br.t ?_ ?_;(focus first|assumption|lia);cbv)|(refine Br.f ?_ ?_;(focus first|assumption|lia);cbv)|(refine Br.mk (fun _=>?_) (fun _=>?_)<;>cbv)|(refine Need.mk ?_ ?_;rotate_left;cbv)|(refine R0 ?_;cbv))
          all_goals try(exfalso;clear hA hP hC hst hkf hck hcw hlt hsm;lia)
          all_goals try(clear hA hP hC hst hkf hck hcw hlt hsm;lia)
          all_goals first
            | (have e : A = refA 1 := by (clear hP hC hst hkf hck hcw hlt hsm h0 h1 h2 h3 hlen; rw [hA]; simp_all; done)
               have p:P=zeroCh:=by rw[hP,e];first|exact if_neg (by decide)|exact if_neg (show ¬ ((7:Int)=0) by decide)|exact(if_pos (show ans0.code=0 from rfl)).trans hC
               rw[e,p];(repeat' apply And.intro)<;>first|rfl|exact WkR.refl _|exact h0|exact h1|exact h2|exact h3|exact True.intro|trace_state)
            | (have e : A = refA 4 := by (clear hP hC hst hkf hck hcw hlt hsm h0 h1 h2 h3 hlen; rw [hA]; simp_all; done)
               have p:P=zeroCh:=by rw[hP,e];first|exact if_neg (by decide)|exact if_neg (show ¬ ((7:Int)=0) by decide)|exact(if_pos (show ans0.code=0 from rfl)).trans hC
               rw[e,p];(repeat' apply And.intro)<;>first|rfl|exact WkR.refl _|exact h0|exact h1|exact h2|exact h3|exact True.intro|trace_state)
            | (have e : A = { ans0 with code := 7 } := by (clear hP hC hst hkf hck hcw hlt hsm h0 h1 h2 h3 hlen; rw [hA]; simp_all; done)
               have p:P=zeroCh:=by rw[hP,e];first|exact if_neg (by decide)|exact if_neg (show ¬ ((7:Int)=0) by decide)|exact(if_pos (show ans0.code=0 from rfl)).trans hC
               rw[e,p];(repeat' apply And.intro)<;>first|rfl|exact WkR.refl _|exact h0|exact h1|exact h2|exact h3|exact True.intro|trace_state)
            | (have e : A = refA 3 := by (clear hP hC hst hkf hck hcw hlt hsm h0 h1 h2 h3 hlen; rw [hA]; simp_all; done)
               have p:P=zeroCh:=by rw[hP,e];first|exact if_neg (by decide)|exact if_neg (show ¬ ((7:Int)=0) by decide)|exact(if_pos (show ans0.code=0 from rfl)).trans hC
               rw[e,p];(repeat' apply And.intro)<;>first|rfl|exact WkR.refl _|exact h0|exact h1|exact h2|exact h3|exact True.intro|trace_state)
            | (have e : A = refA 2 := by (clear hP hC hst hkf hck hcw hlt hsm h0 h1 h2 h3 hlen; rw [hA]; simp_all; done)
               have p:P=zeroCh:=by rw[hP,e];first|exact if_neg (by decide)|exact if_neg (show ¬ ((7:Int)=0) by decide)|exact(if_pos (show ans0.code=0 from rfl)).trans hC
               rw[e,p];(repeat' apply And.intro)<;>first|rfl|exact WkR.refl _|exact h0|exact h1|exact h2|exact h3|exact True.intro|trace_state)
            | (have e : A = ans0 := by (clear hP hC hst hkf hck hcw hlt hsm h0 h1 h2 h3 hlen; rw [hA]; simp_all; done)
               have p:P=⟨0,key,false,[]⟩:=by rw[hP,e];first|exact if_neg (by decide)|exact if_neg (show ¬ ((7:Int)=0) by decide)|exact(if_pos (show ans0.code=0 from rfl)).trans hC
               rw[e,p];(repeat' apply And.intro)<;>first|rfl|exact WkR.refl _|exact h0|exact h1|exact h2|exact h3|exact True.intro|trace_state)
            | trace_state
      · have hC:=hC1 hk2
        clear hC1 hC2
        cases has
        all_goals
          refine go (fn:=Proofs.Tryz.f242) (n:=111) (rv:=[ResultVar.cell 4 37,ResultVar.cell 5 78]) rfl (by decide) rfl (by decide +kernel) rfl rfl (by simp) fun F L C=>?_
          cbv
          (repeat' first|(refine Na ?_ fun _ _=>?_;(focus lia);cbv)|(refine CallThen.mk _ _ (C.fn (hst)) ?_;cbv)|(refine CallThen.bool (C.fn (hkf)) (fun _=>?_) (fun _=>?_)<;>cbv)|(refine CallThen.bool (C.fn (hck)) (fun _=>?_) (fun _=>?_)<;>cbv)|(refine CallThen.bool (C.fn (hcw)) (fun _=>?_) (fun _=>?_)<;>cbv)|(refine CallThen.bool (C.fn (hlt)) (fun _=>?_) (fun _=>?_)<;>cbv)|(refine CallThen.bool (C.fn (hsm)) (fun _=>?_) (fun _=>?_)<;>cbv)|(fail)|(refine Nl fun _ _ hq=>?_;(try simp only [lenS] at hq);cbv)|(refine Nm fun _ _=>?_;cbv)|(refine Br.t ?_ ?_;(focus first|assumption|lia);cbv)|(refine Br.f ?_ ?_;(focus first|assumption|lia);cbv)|(refine Br.mk (fun _=>?_) (fun _=>?_)<;>cbv)|(refine Need.mk ?_ ?_;rotate_left;cbv)|(refine R0 ?_;cbv))
          all_goals try(exfalso;clear hA hP hC hst hkf hck hcw hlt hsm;lia)
          all_goals try(clear hA hP hC hst hkf hck hcw hlt hsm;lia)
          all_goals first
            | (have e : A = refA 1 := by (clear hP hC hst hkf hck hcw hlt hsm h0 h1 h2 h3 hlen; rw [hA]; simp_all; done)
               have p:P=zeroCh:=by rw[hP,e];first|exact if_neg (by decide)|exact if_neg (show ¬ ((7:Int)=0) by decide)|exact(if_pos (show ans0.code=0 from rfl)).trans hC
               rw[e,p];(repeat' apply And.intro)<;>first|rfl|exact WkR.refl _|exact h0|exact h1|exact h2|exact h3|exact True.intro|trace_state)
            | (have e : A = refA 4 := by (clear hP hC hst hkf hck hcw hlt hsm h0 h1 h2 h3 hlen; rw [hA]; simp_all; done)
               have p:P=zeroCh:=by rw[hP,e];first|exact if_neg (by decide)|exact if_neg (show ¬ ((7:Int)=0) by decide)|exact(if_pos (show ans0.code=0 from rfl)).trans hC
               rw[e,p];(repeat' apply And.intro)<;>first|rfl|exact WkR.refl _|exact h0|exact h1|exact h2|exact h3|exact True.intro|trace_state)
            | (have e : A = { ans0 with code := 7 } := by (clear hP hC hst hkf hck hcw hlt hsm h0 h1 h2 h3 hlen; rw [hA]; simp_all; done)
               have p:P=zeroCh:=by rw[hP,e];first|exact if_neg (by decide)|exact if_neg (show ¬ ((7:Int)=0) by decide)|exact(if_pos (show ans0.code=0 from rfl)).trans hC
               rw[e,p];(repeat' apply And.intro)<;>first|rfl|exact WkR.refl _|exact h0|exact h1|exact h2|exact h3|exact True.intro|trace_state)
            | (have e : A = refA 3 := by (clear hP hC hst hkf hck hcw hlt hsm h0 h1 h2 h3 hlen; rw [hA]; simp_all; done)
               have p:P=zeroCh:=by rw[hP,e];first|exact if_neg (by decide)|exact if_neg (show ¬ ((7:Int)=0) by decide)|exact(if_pos (show ans0.code=0 from rfl)).trans hC
               rw[e,p];(repeat' apply And.intro)<;>first|rfl|exact WkR.refl _|exact h0|exact h1|exact h2|exact h3|exact True.intro|trace_state)
            | (have e : A = refA 2 := by (clear hP hC hst hkf hck hcw hlt hsm h0 h1 h2 h3 hlen; rw [hA]; simp_all; done)
               have p:P=zeroCh:=by rw[hP,e];first|exact if_neg (by decide)|exact if_neg (show ¬ ((7:Int)=0) by decide)|exact(if_pos (show ans0.code=0 from rfl)).trans hC
               rw[e,p];(repeat' apply And.intro)<;>first|rfl|exact WkR.refl _|exact h0|exact h1|exact h2|exact h3|exact True.intro|trace_state)
            | (have e : A = ans0 := by (clear hP hC hst hkf hck hcw hlt hsm h0 h1 h2 h3 hlen; rw [hA]; simp_all; done)
               have p:P=⟨0,key,true,doc⟩:=by rw[hP,e];first|exact if_neg (by decide)|exact if_neg (show ¬ ((7:Int)=0) by decide)|exact(if_pos (show ans0.code=0 from rfl)).trans hC
               rw[e,p];(repeat' apply And.intro)<;>first|rfl|exact WkR.refl _|exact h0|exact h1|exact h2|exact h3|exact True.intro|trace_state)
            | trace_state
  | true =>
    have hW:=hst2 rfl
    obtain⟨x,hx,hxd⟩:=hat rfl
    have hw1:w=ps:=hfi
    clear hst2 hst3 hat hfi
    subst hW
    obtain⟨xk,xd⟩:=x
    replace hxd:D=xd:=hxd
    subst hxd
    by_cases hk2:kind=2
    · have hC:=hC2 hk2
      clear hC1 hC2
      cases has
      all_goals
        refine go (fn:=Proofs.Tryz.f242) (n:=111) (rv:=[ResultVar.cell 4 37,ResultVar.cell 5 78]) rfl (by decide) rfl (by decide +kernel) rfl rfl (by simp) fun F L C=>?_
        cbv
        (repeat' first|(refine Na ?_ fun _ _=>?_;(focus lia);cbv)|(refine CallThen.mk _ _ (C.fn (hst)) ?_;cbv)|(refine CallThen.bool (C.fn (hkf)) (fun _=>?_) (fun _=>?_)<;>cbv)|(refine CallThen.bool (C.fn (hck)) (fun _=>?_) (fun _=>?_)<;>cbv)|(refine CallThen.bool (C.fn (hcw)) (fun _=>?_) (fun _=>?_)<;>cbv)|(refine CallThen.bool (C.fn (hlt)) (fun _=>?_) (fun _=>?_)<;>cbv)|(refine CallThen.bool (C.fn (hsm)) (fun _=>?_) (fun _=>?_)<;>cbv)|(refine Ex.known O (Ndoc.enc O) rfl hx ?_ ?_;(focus lia);cbv)|(refine Nl fun _ _ hq=>?_;(try simp only [lenS] at hq);cbv)|(refine Nm fun _ _=>?_;cbv)|(refine Br.t ?_ ?_;(focus first|assumption|lia);cbv)|(refine Br.f ?_ ?_;(focus first|assumption|lia);cbv)|(refine Br.mk (fun _=>?_) (fun _=>?_)<;>cbv)|(refine Need.mk ?_ ?_;rotate_left;cbv)|(refine R0 ?_;cbv))
        all_goals try(exfalso;clear hA hP hC hst hkf hck hcw hlt hsm;lia)
        all_goals try(clear hA hP hC hst hkf hck hcw hlt hsm;lia)
        all_goals first
          | (have e : A = refA 1 := by (clear hP hC hst hkf hck hcw hlt hsm h0 h1 h2 h3 hlen; rw [hA]; simp_all; done)
             have p:P=zeroCh:=by rw[hP,e];first|exact if_neg (by decide)|exact if_neg (show ¬ ((7:Int)=0) by decide)|exact(if_pos (show ans0.code=0 from rfl)).trans hC
             rw[e,p];(repeat' apply And.intro)<;>first|rfl|exact WkR.refl _|exact h0|exact h1|exact h2|exact h3|exact True.intro|trace_state)
          | (have e : A = refA 4 := by (clear hP hC hst hkf hck hcw hlt hsm h0 h1 h2 h3 hlen; rw [hA]; simp_all; done)
             have p:P=zeroCh:=by rw[hP,e];first|exact if_neg (by decide)|exact if_neg (show ¬ ((7:Int)=0) by decide)|exact(if_pos (show ans0.code=0 from rfl)).trans hC
             rw[e,p];(repeat' apply And.intro)<;>first|rfl|exact WkR.refl _|exact h0|exact h1|exact h2|exact h3|exact True.intro|trace_state)
          | (have e : A = ⟨7, true, D, [], [], 0, 0, []⟩ := by (clear hP hC hst hkf hck hcw hlt hsm h0 h1 h2 h3 hlen; rw [hA]; simp_all; done)
             have p:P=zeroCh:=by rw[hP,e];first|exact if_neg (by decide)|exact if_neg (show ¬ ((7:Int)=0) by decide)|exact(if_pos (show ans0.code=0 from rfl)).trans hC
             rw[e,p];(repeat' apply And.intro)<;>first|rfl|exact WkR.refl _|exact h0|exact h1|exact h2|exact h3|exact True.intro|trace_state)
          | (have e : A = refA 3 := by (clear hP hC hst hkf hck hcw hlt hsm h0 h1 h2 h3 hlen; rw [hA]; simp_all; done)
             have p:P=zeroCh:=by rw[hP,e];first|exact if_neg (by decide)|exact if_neg (show ¬ ((7:Int)=0) by decide)|exact(if_pos (show ans0.code=0 from rfl)).trans hC
             rw[e,p];(repeat' apply And.intro)<;>first|rfl|exact WkR.refl _|exact h0|exact h1|exact h2|exact h3|exact True.intro|trace_state)
          | (have e : A = refA 2 := by (clear hP hC hst hkf hck hcw hlt hsm h0 h1 h2 h3 hlen; rw [hA]; simp_all; done)
             have p:P=zeroCh:=by rw[hP,e];first|exact if_neg (by decide)|exact if_neg (show ¬ ((7:Int)=0) by decide)|exact(if_pos (show ans0.code=0 from rfl)).trans hC
             rw[e,p];(repeat' apply And.intro)<;>first|rfl|exact WkR.refl _|exact h0|exact h1|exact h2|exact h3|exact True.intro|trace_state)
          | (have e : A = ans0 := by (clear hP hC hst hkf hck hcw hlt hsm h0 h1 h2 h3 hlen; rw [hA]; simp_all; done)
             have p:P=⟨0,key,false,[]⟩:=by rw[hP,e];first|exact if_neg (by decide)|exact if_neg (show ¬ ((7:Int)=0) by decide)|exact(if_pos (show ans0.code=0 from rfl)).trans hC
             rw[e,p];(repeat' apply And.intro)<;>first|rfl|exact WkR.refl _|exact h0|exact h1|exact h2|exact h3|exact True.intro|trace_state)
          | trace_state
    · have hC:=hC1 hk2
      clear hC1 hC2
      cases has
      all_goals
        refine go (fn:=Proofs.Tryz.f242) (n:=111) (rv:=[ResultVar.cell 4 37,ResultVar.cell 5 78]) rfl (by decide) rfl (by decide +kernel) rfl rfl (by simp) fun F L C=>?_
        cbv
        (repeat' first|(refine Na ?_ fun _ _=>?_;(focus lia);cbv)|(refine CallThen.mk _ _ (C.fn (hst)) ?_;cbv)|(refine CallThen.bool (C.fn (hkf)) (fun _=>?_) (fun _=>?_)<;>cbv)|(refine CallThen.bool (C.fn (hck)) (fun _=>?_) (fun _=>?_)<;>cbv)|(refine CallThen.bool (C.fn (hcw)) (fun _=>?_) (fun _=>?_)<;>cbv)|(refine CallThen.bool (C.fn (hlt)) (fun _=>?_) (fun _=>?_)<;>cbv)|(refine CallThen.bool (C.fn (hsm)) (fun _=>?_) (fun _=>?_)<;>cbv)|(refine Ex.known O (Ndoc.enc O) rfl hx ?_ ?_;(focus lia);cbv)|(refine Nl fun _ _ hq=>?_;(try simp only [lenS] at hq);cbv)|(refine Nm fun _ _=>?_;cbv)|(refine Br.t ?_ ?_;(focus first|assumption|lia);cbv)|(refine Br.f ?_ ?_;(focus first|assumption|lia);cbv)|(refine Br.mk (fun _=>?_) (fun _=>?_)<;>cbv)|(refine Need.mk ?_ ?_;rotate_left;cbv)|(refine R0 ?_;cbv))
        all_goals try(exfalso;clear hA hP hC hst hkf hck hcw hlt hsm;lia)
        all_goals try(clear hA hP hC hst hkf hck hcw hlt hsm;lia)
        all_goals first
          | (have e : A = refA 1 := by (clear hP hC hst hkf hck hcw hlt hsm h0 h1 h2 h3 hlen; rw [hA]; simp_all; done)
             have p:P=zeroCh:=by rw[hP,e];first|exact if_neg (by decide)|exact if_neg (show ¬ ((7:Int)=0) by decide)|exact(if_pos (show ans0.code=0 from rfl)).trans hC
             rw[e,p];(repeat' apply And.intro)<;>first|rfl|exact WkR.refl _|exact h0|exact h1|exact h2|exact h3|exact True.intro|trace_state)
          | (have e : A = refA 4 := by (clear hP hC hst hkf hck hcw hlt hsm h0 h1 h2 h3 hlen; rw [hA]; simp_all; done)
             have p:P=zeroCh:=by rw[hP,e];first|exact if_neg (by decide)|exact if_neg (show ¬ ((7:Int)=0) by decide)|exact(if_pos (show ans0.code=0 from rfl)).trans hC
             rw[e,p];(repeat' apply And.intro)<;>first|rfl|exact WkR.refl _|exact h0|exact h1|exact h2|exact h3|exact True.intro|trace_state)
          | (have e : A = ⟨7, true, D, [], [], 0, 0, []⟩ := by (clear hP hC hst hkf hck hcw hlt hsm h0 h1 h2 h3 hlen; rw [hA]; simp_all; done)
             have p:P=zeroCh:=by rw[hP,e];first|exact if_neg (by decide)|exact if_neg (show ¬ ((7:Int)=0) by decide)|exact(if_pos (show ans0.code=0 from rfl)).trans hC
             rw[e,p];(repeat' apply And.intro)<;>first|rfl|exact WkR.refl _|exact h0|exact h1|exact h2|exact h3|exact True.intro|trace_state)
          | (have e : A = refA 3 := by (clear hP hC hst hkf hck hcw hlt hsm h0 h1 h2 h3 hlen; rw [hA]; simp_all; done)
             have p:P=zeroCh:=by rw[hP,e];first|exact if_neg (by decide)|exact if_neg (show ¬ ((7:Int)=0) by decide)|exact(if_pos (show ans0.code=0 from rfl)).trans hC
             rw[e,p];(repeat' apply And.intro)<;>first|rfl|exact WkR.refl _|exact h0|exact h1|exact h2|exact h3|exact True.intro|trace_state)
          | (have e : A = refA 2 := by (clear hP hC hst hkf hck hcw hlt hsm h0 h1 h2 h3 hlen; rw [hA]; simp_all; done)
             have p:P=zeroCh:=by rw[hP,e];first|exact if_neg (by decide)|exact if_neg (show ¬ ((7:Int)=0) by decide)|exact(if_pos (show ans0.code=0 from rfl)).trans hC
             rw[e,p];(repeat' apply And.intro)<;>first|rfl|exact WkR.refl _|exact h0|exact h1|exact h2|exact h3|exact True.intro|trace_state)
          | (have e : A = ans0 := by (clear hP hC hst hkf hck hcw hlt hsm h0 h1 h2 h3 hlen; rw [hA]; simp_all; done)
             have p:P=⟨0,key,true,doc⟩:=by rw[hP,e];first|exact if_neg (by decide)|exact if_neg (show ¬ ((7:Int)=0) by decide)|exact(if_pos (show ans0.code=0 from rfl)).trans hC
             rw[e,p];(repeat' apply And.intro)<;>first|rfl|exact WkR.refl _|exact h0|exact h1|exact h2|exact h3|exact True.intro|trace_state)
          | trace_state
end Go.Sym
