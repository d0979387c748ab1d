/- What is written. -/
import Derived.Test.YthaaoongjcmleaaGreatDoorK1
set_option linter.all false
set_option linter.unusedVariables false
set_option linter.unusedSimpArgs false
namespace Go.Sym
open Go Go.Proofs.Tryz
set_option maxRecDepth 100000
open Classical in
set_option maxHeartbeats 4000000 in
theorem write_fn (O : Opq) (l : List Ndoc) (o : Opn) (hl : l.length ≤ 1099511627) (hs : sortedK Ndoc.key l) (hd : ∀ n ∈ l, n.doc.length ≤ 1099511627) (hod : o.doc.length ≤ 1099511627) (how : o.want.length ≤ 1099511627) :
    Fn prog 146 [.sl false 0 false 2 (O.o (Nms.enc O) l),.agg (o.en O)] [] [.agg ((O.o (writeA l) o).enc O),.agg ((O.o (writeP l) o).enc O)] []:=by
  have hlen:=Nms.len O l
  have h0:O.o Doc.enc []=[]:=by rw[O.h];rfl
  have h1:O.o (Nms.enc O) []=[]:=by rw[O.h];rfl
  have h2:O.o (Chs.enc O) []=[]:=by rw[O.h];rfl
  have h3:O.o Prs.enc []=[]:=by rw[O.h];rfl
  have hst:=stands_fn O l o.key hl hs hd
  have hck:=check_fn O o.doc (by omega)
  have hcw:=check_fn O o.want (by omega)
  have hcl:=cloneW_fn O o.doc hod
  have hlt:=slight_fn O o.doc hod
  have hkf:=key_fn O o.key
  have hA:O.o (writeA l) o=if O.o isKey o.key=false then refA 1
    else if o.kind=2 then(if getK Ndoc.key l o.key=true then ans0 else refA 4)
    else if O.o docErr o.doc≠0∨(o.kind=3∧o.has=true∧O.o docErr o.want≠0) then refA 1
    else if o.kind=3∧(getK Ndoc.key l o.key≠o.has∨(o.has=true∧O.o sameDoc (docAt l o.key) o.want=false)) then { O.o (standA l) o.key with code:=7 }
    else if O.o lightD o.doc=false then refA 3
    else if getK Ndoc.key l o.key=false∧l.length=24 then refA 2
    else ans0:=by
    simp only [O.h]
    have e1:∀ d:Doc,docErr d≠0 ↔ may d=false:=fun d=>by rw[Ne,docErr_zero];simp
    have e2:sameDoc (docAt l o.key) o.want=false ↔ docAt l o.key≠o.want:=by simp [sameDoc]
    rw[writeA]
    simp only [e1,e2,casBad,decide_eq_true_eq]
  have hP:O.o (writeP l) o=⟨0,o.key,decide (o.kind≠2),if o.kind=2∧O.o isKey o.key=true∧getK Ndoc.key l o.key=true then[] else o.doc⟩:=by simp only [O.h];rfl
  have hsm:=fun h=>same_fn O (docAt l o.key) o.want h
  have hst2:getK Ndoc.key l o.key=true→O.o (standA l) o.key=⟨0,true,docAt l o.key,[],[],0,0,[]⟩:=fun h=>by rw[O.h,standA,if_pos h]
  have hst3:getK Ndoc.key l o.key=false→O.o (standA l) o.key=ans0:=fun h=>by rw[O.h,standA,if_neg (by simp [h])]
  have hdl:(docAt l o.key).length≤1099511627776:=by
    unfold docAt;split
    · rename_i n hn;have:=hd n (List.mem_of_getElem? hn);omega
    · simp
  have hsm:=hsm hdl
  obtain⟨D,eD⟩:∃ D,D=docAt l o.key:=⟨_,rfl⟩
  obtain⟨A,eA⟩:∃ A,A=O.o (writeA l) o:=⟨_,rfl⟩
  obtain⟨P,eP⟩:∃ A,A=O.o (writeP l) o:=⟨_,rfl⟩
  obtain⟨bk,ebk⟩:∃ A,A=O.o isKey o.key:=⟨_,rfl⟩
  obtain⟨e1,ee1⟩:∃ A,A=O.o docErr o.doc:=⟨_,rfl⟩
  obtain⟨e2,ee2⟩:∃ A,A=O.o docErr o.want:=⟨_,rfl⟩
  rw[← eD] at hA hsm hst2
  obtain⟨S,eS⟩:∃ A,A=O.o sameDoc D o.want:=⟨_,rfl⟩
  obtain⟨L2,eL⟩:∃ A,A=O.o lightD o.doc:=⟨_,rfl⟩
  obtain⟨g,eg⟩:∃ A,A=getK Ndoc.key l o.key:=⟨_,rfl⟩
  obtain⟨W,eW⟩:∃ A,A=O.o (standA l) o.key:=⟨_,rfl⟩
  rw[← eA,← ebk,← ee1,← ee2,← eS,← eL,← eg,← eW] at hA
  rw[← eP,← ebk,← eg] at hP
  rw[← eA,← eP]
  rw[← eW] at hst
  rw[← ee1] at hck
  rw[← ee2] at hcw
  rw[← eL] at hlt
  rw[← ebk] at hkf
  rw[← eS] at hsm
  rw[← eg,← eW] at hst2 hst3
  clear eD eA eP ebk ee1 ee2 eS eL eg eW hd hs hdl
  obtain⟨kind,key,to,doc,want,has,n,most,list,docs,news⟩:=o
  replace hA:A=if bk=false then refA 1 else if kind=2 then(if g=true then ans0 else refA 4) else if e1≠0∨(kind=3∧has=true∧e2≠0) then refA 1 else if kind=3∧(g≠has∨(has=true∧S=false)) then { W with code:=7 } else if L2=false then refA 3 else if g=false∧l.length=24 then refA 2 else ans0:=hA
  replace hP:P=⟨0,key,decide (kind≠2),if kind=2∧bk=true∧g=true then[] else doc⟩:=hP
  replace hst:Fn prog 129 [.sl false 0 false 2 (O.o (Nms.enc O) l),.str key] [] [.agg (W.enc O)] []:=hst
  replace hck:Fn prog 123 [.sl false 0 false 6 (O.o Doc.enc doc)] [] [.int .i64 e1] []:=hck
  replace hcw:Fn prog 123 [.sl false 0 false 6 (O.o Doc.enc want)] [] [.int .i64 e2] []:=hcw
  cases g with
  | false =>
    have hW:=hst3 rfl
    clear hst2 hst3
    subst hW
    by_cases hN:l.length=24
    all_goals
      by_cases hk2:kind=2
      · have hP2:P=⟨0,key,false,doc⟩:=by rw[hP];simp [hk2]
        clear hP
        cases has
        all_goals
          refine go (fn:=Proofs.Tryz.f146) (n:=112) (rv:=[ResultVar.cell 4 61,ResultVar.cell 5 90]) rfl (by decide) rfl (by decide +kernel) rfl rfl (by simp) fun F L C=>?_
          cbv
          (repeat' first|(refine Na ?_ fun _ _=>?_;(focus lia);cbv)|(refine CallThen.mk _ _ (C.fn (hcl)) ?_;cbv)|(refine CallThen.mk _ _ (C.fn (hst)) ?_;cbv)|(refine CallThen.bool (C.fn (hkf)) (fun _=>?_) (fun _=>?_)<;>cbv)|(refine CallThen.mk _ _ (C.fn (refused_fn O _)) ?_;cbv)|(refine CallThen.mk _ _ (C.fn (hck)) ?_;cbv)|(refine CallThen.mk _ _ (C.fn (hcw)) ?_;cbv)|(refine CallThen.bool (C.fn (hlt)) (fun _=>?_) (fun _=>?_)<;>cbv)|(refine CallThen.bool (C.fn (hsm)) (fun _=>?_) (fun _=>?_)<;>cbv)|(refine Nl fun _ _ hq=>?_;(try simp only [lenS] at hq);cbv)|(refine Nm fun _ _=>?_;cbv)|(refine Br.t ?_ ?_;(focus first|assumption|lia);cbv)|(refine Br.f ?_ ?_;(focus first|assumption|lia);cbv)|(refine Br.mk (fun _=>?_) (fun _=>?_)<;>cbv)|(refine Need.mk ?_ ?_;rotate_left;cbv)|(refine R0 ?_;cbv))
          all_goals try(exfalso;clear hA hP2 hcl hst hkf hck hcw hlt hsm;lia)
          all_goals first
            | (have e : A = refA 1 := by (clear hP2 hcl hst hkf hck hcw hlt hsm h0 h1 h2 h3 hlen; rw [hA]; simp_all; done)
               rw[e,hP2];(repeat' apply And.intro)<;>first|rfl|exact WkR.refl _|exact h0|exact h1|exact h2|exact h3|exact True.intro|trace_state)
            | (have e : A = refA 4 := by (clear hP2 hcl hst hkf hck hcw hlt hsm h0 h1 h2 h3 hlen; rw [hA]; simp_all; done)
               rw[e,hP2];(repeat' apply And.intro)<;>first|rfl|exact WkR.refl _|exact h0|exact h1|exact h2|exact h3|exact True.intro|trace_state)
            | (have e : A = { ans0 with code := 7 } := by (clear hP2 hcl hst hkf hck hcw hlt hsm h0 h1 h2 h3 hlen; rw [hA]; simp_all; done)
               rw[e,hP2];(repeat' apply And.intro)<;>first|rfl|exact WkR.refl _|exact h0|exact h1|exact h2|exact h3|exact True.intro|trace_state)
            | (have e : A = refA 3 := by (clear hP2 hcl hst hkf hck hcw hlt hsm h0 h1 h2 h3 hlen; rw [hA]; simp_all; done)
               rw[e,hP2];(repeat' apply And.intro)<;>first|rfl|exact WkR.refl _|exact h0|exact h1|exact h2|exact h3|exact True.intro|trace_state)
            | (have e : A = refA 2 := by (clear hP2 hcl hst hkf hck hcw hlt hsm h0 h1 h2 h3 hlen; rw [hA]; simp_all; done)
               rw[e,hP2];(repeat' apply And.intro)<;>first|rfl|exact WkR.refl _|exact h0|exact h1|exact h2|exact h3|exact True.intro|trace_state)
            | (have e : A = ans0 := by (clear hP2 hcl hst hkf hck hcw hlt hsm h0 h1 h2 h3 hlen; rw [hA]; simp_all; done)
               rw[e,hP2];(repeat' apply And.intro)<;>first|rfl|exact WkR.refl _|exact h0|exact h1|exact h2|exact h3|exact True.intro|trace_state)
            | trace_state
      · have hP2:P=⟨0,key,true,doc⟩:=by rw[hP];simp [hk2]
        clear hP
        cases has
        all_goals
          refine go (fn:=Proofs.Tryz.f146) (n:=112) (rv:=[ResultVar.cell 4 61,ResultVar.cell 5 90]) rfl (by decide) rfl (by decide +kernel) rfl rfl (by simp) fun F L C=>?_
          cbv
          (repeat' first|(refine Na ?_ fun _ _=>?_;(focus lia);cbv)|(refine CallThen.mk _ _ (C.fn (hcl)) ?_;cbv)|(refine CallThen.mk _ _ (C.fn (hst)) ?_;cbv)|(refine CallThen.bool (C.fn (hkf)) (fun _=>?_) (fun _=>?_)<;>cbv)|(refine CallThen.mk _ _ (C.fn (refused_fn O _)) ?_;cbv)|(refine CallThen.mk _ _ (C.fn (hck)) ?_;cbv)|(refine CallThen.mk _ _ (C.fn (hcw)) ?_;cbv)|(refine CallThen.bool (C.fn (hlt)) (fun _=>?_) (fun _=>?_)<;>cbv)|(refine CallThen.bool (C.fn (hsm)) (fun _=>?_) (fun _=>?_)<;>cbv)|(refine Nl fun _ _ hq=>?_;(try simp only [lenS] at hq);cbv)|(refine Nm fun _ _=>?_;cbv)|(refine Br.t ?_ ?_;(focus first|assumption|lia);cbv)|(refine Br.f ?_ ?_;(focus first|assumption|lia);cbv)|(refine Br.mk (fun _=>?_) (fun _=>?_)<;>cbv)|(refine Need.mk ?_ ?_;rotate_left;cbv)|(refine R0 ?_;cbv))
          all_goals try(exfalso;clear hA hP2 hcl hst hkf hck hcw hlt hsm;lia)
          all_goals first
            | (have e : A = refA 1 := by (clear hP2 hcl hst hkf hck hcw hlt hsm h0 h1 h2 h3 hlen; rw [hA]; simp_all; done)
               rw[e,hP2];(repeat' apply And.intro)<;>first|rfl|exact WkR.refl _|exact h0|exact h1|exact h2|exact h3|exact True.intro|trace_state)
            | (have e : A = refA 4 := by (clear hP2 hcl hst hkf hck hcw hlt hsm h0 h1 h2 h3 hlen; rw [hA]; simp_all; done)
               rw[e,hP2];(repeat' apply And.intro)<;>first|rfl|exact WkR.refl _|exact h0|exact h1|exact h2|exact h3|exact True.intro|trace_state)
            | (have e : A = { ans0 with code := 7 } := by (clear hP2 hcl hst hkf hck hcw hlt hsm h0 h1 h2 h3 hlen; rw [hA]; simp_all; done)
               rw[e,hP2];(repeat' apply And.intro)<;>first|rfl|exact WkR.refl _|exact h0|exact h1|exact h2|exact h3|exact True.intro|trace_state)
            | (have e : A = refA 3 := by (clear hP2 hcl hst hkf hck hcw hlt hsm h0 h1 h2 h3 hlen; rw [hA]; simp_all; done)
               rw[e,hP2];(repeat' apply And.intro)<;>first|rfl|exact WkR.refl _|exact h0|exact h1|exact h2|exact h3|exact True.intro|trace_state)
            | (have e : A = refA 2 := by (clear hP2 hcl hst hkf hck hcw hlt hsm h0 h1 h2 h3 hlen; rw [hA]; simp_all; done)
               rw[e,hP2];(repeat' apply And.intro)<;>first|rfl|exact WkR.refl _|exact h0|exact h1|exact h2|exact h3|exact True.intro|trace_state)
            | (have e : A = ans0 := by (clear hP2 hcl hst hkf hck hcw hlt hsm h0 h1 h2 h3 hlen; rw [hA]; simp_all; done)
               rw[e,hP2];(repeat' apply And.intro)<;>first|rfl|exact WkR.refl _|exact h0|exact h1|exact h2|exact h3|exact True.intro|trace_state)
            | trace_state
  | true =>
    have hW:=hst2 rfl
    clear hst2 hst3
    subst hW
    cases bk with
    | false =>
      have hP2:P=⟨0,key,decide (kind≠2),doc⟩:=by rw[hP];simp
      clear hP
      by_cases hk2:kind=2
      · rw[show decide (kind≠2)=false by simp [hk2]] at hP2
        cases has
        all_goals
          refine go (fn:=Proofs.Tryz.f146) (n:=112) (rv:=[ResultVar.cell 4 61,ResultVar.cell 5 90]) rfl (by decide) rfl (by decide +kernel) rfl rfl (by simp) fun F L C=>?_
          cbv
          (repeat' first|(refine Na ?_ fun _ _=>?_;(focus lia);cbv)|(refine CallThen.mk _ _ (C.fn (hcl)) ?_;cbv)|(refine CallThen.mk _ _ (C.fn (hst)) ?_;cbv)|(refine CallThen.bool (C.fn (hkf)) (fun _=>?_) (fun _=>?_)<;>cbv)|(refine CallThen.mk _ _ (C.fn (refused_fn O _)) ?_;cbv)|(refine CallThen.mk _ _ (C.fn (hck)) ?_;cbv)|(refine CallThen.mk _ _ (C.fn (hcw)) ?_;cbv)|(refine CallThen.bool (C.fn (hlt)) (fun _=>?_) (fun _=>?_)<;>cbv)|(refine CallThen.bool (C.fn (hsm)) (fun _=>?_) (fun _=>?_)<;>cbv)|(refine Nl fun _ _ hq=>?_;(try simp only [lenS] at hq);cbv)|(refine Nm fun _ _=>?_;cbv)|(refine Br.t ?_ ?_;(focus first|assumption|lia);cbv)|(refine Br.f ?_ ?_;(focus first|assumption|lia);cbv)|(refine Br.mk (fun _=>?_) (fun _=>?_)<;>cbv)|(refine Need.mk ?_ ?_;rotate_left;cbv)|(refine R0 ?_;cbv))
          all_goals try(exfalso;clear hA hP2 hcl hst hkf hck hcw hlt hsm;lia)
          all_goals first
            | (have e : A = refA 1 := by (clear hP2 hcl hst hkf hck hcw hlt hsm h0 h1 h2 h3 hlen; rw [hA]; simp_all; done)
               rw[e,hP2];(repeat' apply And.intro)<;>first|rfl|exact WkR.refl _|exact h0|exact h1|exact h2|exact h3|exact True.intro|trace_state)
            | (have e : A = refA 4 := by (clear hP2 hcl hst hkf hck hcw hlt hsm h0 h1 h2 h3 hlen; rw [hA]; simp_all; done)
               rw[e,hP2];(repeat' apply And.intro)<;>first|rfl|exact WkR.refl _|exact h0|exact h1|exact h2|exact h3|exact True.intro|trace_state)
            | (have e : A = ⟨7, true, D, [], [], 0, 0, []⟩ := by (clear hP2 hcl hst hkf hck hcw hlt hsm h0 h1 h2 h3 hlen; rw [hA]; simp_all; done)
               rw[e,hP2];(repeat' apply And.intro)<;>first|rfl|exact WkR.refl _|exact h0|exact h1|exact h2|exact h3|exact True.intro|trace_state)
            | (have e : A = refA 3 := by (clear hP2 hcl hst hkf hck hcw hlt hsm h0 h1 h2 h3 hlen; rw [hA]; simp_all; done)
               rw[e,hP2];(repeat' apply And.intro)<;>first|rfl|exact WkR.refl _|exact h0|exact h1|exact h2|exact h3|exact True.intro|trace_state)
            | (have e : A = refA 2 := by (clear hP2 hcl hst hkf hck hcw hlt hsm h0 h1 h2 h3 hlen; rw [hA]; simp_all; done)
               rw[e,hP2];(repeat' apply And.intro)<;>first|rfl|exact WkR.refl _|exact h0|exact h1|exact h2|exact h3|exact True.intro|trace_state)
            | (have e : A = ans0 := by (clear hP2 hcl hst hkf hck hcw hlt hsm h0 h1 h2 h3 hlen; rw [hA]; simp_all; done)
               rw[e,hP2];(repeat' apply And.intro)<;>first|rfl|exact WkR.refl _|exact h0|exact h1|exact h2|exact h3|exact True.intro|trace_state)
            | trace_state
      · rw[show decide (kind≠2)=true by simp [hk2]] at hP2
        cases has
        all_goals
          refine go (fn:=Proofs.Tryz.f146) (n:=112) (rv:=[ResultVar.cell 4 61,ResultVar.cell 5 90]) rfl (by decide) rfl (by decide +kernel) rfl rfl (by simp) fun F L C=>?_
          cbv
          (repeat' first|(refine Na ?_ fun _ _=>?_;(focus lia);cbv)|(refine CallThen.mk _ _ (C.fn (hcl)) ?_;cbv)|(refine CallThen.mk _ _ (C.fn (hst)) ?_;cbv)|(refine CallThen.bool (C.fn (hkf)) (fun _=>?_) (fun _=>?_)<;>cbv)|(refine CallThen.mk _ _ (C.fn (refused_fn O _)) ?_;cbv)|(refine CallThen.mk _ _ (C.fn (hck)) ?_;cbv)|(refine CallThen.mk _ _ (C.fn (hcw)) ?_;cbv)|(refine CallThen.bool (C.fn (hlt)) (fun _=>?_) (fun _=>?_)<;>cbv)|(refine CallThen.bool (C.fn (hsm)) (fun _=>?_) (fun _=>?_)<;>cbv)|(refine Nl fun _ _ hq=>?_;(try simp only [lenS] at hq);cbv)|(refine Nm fun _ _=>?_;cbv)|(refine Br.t ?_ ?_;(focus first|assumption|lia);cbv)|(refine Br.f ?_ ?_;(focus first|assumption|lia);cbv)|(refine Br.mk (fun _=>?_) (fun _=>?_)<;>cbv)|(refine Need.mk ?_ ?_;rotate_left;cbv)|(refine R0 ?_;cbv))
          all_goals try(exfalso;clear hA hP2 hcl hst hkf hck hcw hlt hsm;lia)
          all_goals first
            | (have e : A = refA 1 := by (clear hP2 hcl hst hkf hck hcw hlt hsm h0 h1 h2 h3 hlen; rw [hA]; simp_all; done)
               rw[e,hP2];(repeat' apply And.intro)<;>first|rfl|exact WkR.refl _|exact h0|exact h1|exact h2|exact h3|exact True.intro|trace_state)
            | (have e : A = refA 4 := by (clear hP2 hcl hst hkf hck hcw hlt hsm h0 h1 h2 h3 hlen; rw [hA]; simp_all; done)
               rw[e,hP2];(repeat' apply And.intro)<;>first|rfl|exact WkR.refl _|exact h0|exact h1|exact h2|exact h3|exact True.intro|trace_state)
            | (have e : A = ⟨7, true, D, [], [], 0, 0, []⟩ := by (clear hP2 hcl hst hkf hck hcw hlt hsm h0 h1 h2 h3 hlen; rw [hA]; simp_all; done)
               rw[e,hP2];(repeat' apply And.intro)<;>first|rfl|exact WkR.refl _|exact h0|exact h1|exact h2|exact h3|exact True.intro|trace_state)
            | (have e : A = refA 3 := by (clear hP2 hcl hst hkf hck hcw hlt hsm h0 h1 h2 h3 hlen; rw [hA]; simp_all; done)
               rw[e,hP2];(repeat' apply And.intro)<;>first|rfl|exact WkR.refl _|exact h0|exact h1|exact h2|exact h3|exact True.intro|trace_state)
            | (have e : A = refA 2 := by (clear hP2 hcl hst hkf hck hcw hlt hsm h0 h1 h2 h3 hlen; rw [hA]; simp_all; done)
               rw[e,hP2];(repeat' apply And.intro)<;>first|rfl|exact WkR.refl _|exact h0|exact h1|exact h2|exact h3|exact True.intro|trace_state)
            | (have e : A = ans0 := by (clear hP2 hcl hst hkf hck hcw hlt hsm h0 h1 h2 h3 hlen; rw [hA]; simp_all; done)
               rw[e,hP2];(repeat' apply And.intro)<;>first|rfl|exact WkR.refl _|exact h0|exact h1|exact h2|exact h3|exact True.intro|trace_state)
            | trace_state
    | true =>
      by_cases hk2:kind=2
      · have hP2:P=⟨0,key,false,[]⟩:=by rw[hP];simp [hk2]
        clear hP
        cases has
        all_goals
          refine go (fn:=Proofs.Tryz.f146) (n:=112) (rv:=[ResultVar.cell 4 61,ResultVar.cell 5 90]) rfl (by decide) rfl (by decide +kernel) rfl rfl (by simp) fun F L C=>?_
          cbv
          (repeat' first|(refine Na ?_ fun _ _=>?_;(focus lia);cbv)|(refine CallThen.mk _ _ (C.fn (hcl)) ?_;cbv)|(refine CallThen.mk _ _ (C.fn (hst)) ?_;cbv)|(refine CallThen.bool (C.fn (hkf)) (fun _=>?_) (fun _=>?_)<;>cbv)|(refine CallThen.mk _ _ (C.fn (refused_fn O _)) ?_;cbv)|(refine CallThen.mk _ _ (C.fn (hck)) ?_;cbv)|(refine CallThen.mk _ _ (C.fn (hcw)) ?_;cbv)|(refine CallThen.bool (C.fn (hlt)) (fun _=>?_) (fun _=>?_)<;>cbv)|(refine CallThen.bool (C.fn (hsm)) (fun _=>?_) (fun _=>?_)<;>cbv)|(refine Nl fun _ _ hq=>?_;(try simp only [lenS] at hq);cbv)|(refine Nm fun _ _=>?_;cbv)|(refine Br.t ?_ ?_;(focus first|assumption|lia);cbv)|(refine Br.f ?_ ?_;(focus first|assumption|lia);cbv)|(refine Br.mk (fun _=>?_) (fun _=>?_)<;>cbv)|(refine Need.mk ?_ ?_;rotate_left;cbv)|(refine R0 ?_;cbv))
          all_goals try(exfalso;clear hA hP2 hcl hst hkf hck hcw hlt hsm;lia)
          all_goals first
            | (have e : A = refA 1 := by (clear hP2 hcl hst hkf hck hcw hlt hsm h0 h1 h2 h3 hlen; rw [hA]; simp_all; done)
               rw[e,hP2];(repeat' apply And.intro)<;>first|rfl|exact WkR.refl _|exact h0|exact h1|exact h2|exact h3|exact True.intro|trace_state)
            | (have e : A = refA 4 := by (clear hP2 hcl hst hkf hck hcw hlt hsm h0 h1 h2 h3 hlen; rw [hA]; simp_all; done)
               rw[e,hP2];(repeat' apply And.intro)<;>first|rfl|exact WkR.refl _|exact h0|exact h1|exact h2|exact h3|exact True.intro|trace_state)
            | (have e : A = ⟨7, true, D, [], [], 0, 0, []⟩ := by (clear hP2 hcl hst hkf hck hcw hlt hsm h0 h1 h2 h3 hlen; rw [hA]; simp_all; done)
               rw[e,hP2];(repeat' apply And.intro)<;>first|rfl|exact WkR.refl _|exact h0|exact h1|exact h2|exact h3|exact True.intro|trace_state)
            | (have e : A = refA 3 := by (clear hP2 hcl hst hkf hck hcw hlt hsm h0 h1 h2 h3 hlen; rw [hA]; simp_all; done)
               rw[e,hP2];(repeat' apply And.intro)<;>first|rfl|exact WkR.refl _|exact h0|exact h1|exact h2|exact h3|exact True.intro|trace_state)
            | (have e : A = refA 2 := by (clear hP2 hcl hst hkf hck hcw hlt hsm h0 h1 h2 h3 hlen; rw [hA]; simp_all; done)
               rw[e,hP2];(repeat' apply And.intro)<;>first|rfl|exact WkR.refl _|exact h0|exact h1|exact h2|exact h3|exact True.intro|trace_state)
            | (have e : A = ans0 := by (clear hP2 hcl hst hkf hck hcw hlt hsm h0 h1 h2 h3 hlen; rw [hA]; simp_all; done)
               rw[e,hP2];(repeat' apply And.intro)<;>first|rfl|exact WkR.refl _|exact h0|exact h1|exact h2|exact h3|exact True.intro|trace_state)
            | trace_state
      · have hP2:P=⟨0,key,true,doc⟩:=by rw[hP];simp [hk2]
        clear hP
        cases has
        all_goals
          refine go (fn:=Proofs.Tryz.f146) (n:=112) (rv:=[ResultVar.cell 4 61,ResultVar.cell 5 90]) rfl (by decide) rfl (by decide +kernel) rfl rfl (by simp) fun F L C=>?_
          cbv
          (repeat' first|(refine Na ?_ fun _ _=>?_;(focus lia);cbv)|(refine CallThen.mk _ _ (C.fn (hcl)) ?_;cbv)|(refine CallThen.mk _ _ (C.fn (hst)) ?_;cbv)|(refine CallThen.bool (C.fn (hkf)) (fun _=>?_) (fun _=>?_)<;>cbv)|(refine CallThen.mk _ _ (C.fn (refused_fn O _)) ?_;cbv)|(refine CallThen.mk _ _ (C.fn (hck)) ?_;cbv)|(refine CallThen.mk _ _ (C.fn (hcw)) ?_;cbv)|(refine CallThen.bool (C.fn (hlt)) (fun _=>?_) (fun _=>?_)<;>cbv)|(refine CallThen.bool (C.fn (hsm)) (fun _=>?_) (fun _=>?_)<;>cbv)|(refine Nl fun _ _ hq=>?_;(try simp only [lenS] at hq);cbv)|(refine Nm fun _ _=>?_;cbv)|(refine Br.t ?_ ?_;(focus first|assumption|lia);cbv)|(refine Br.f ?_ ?_;(focus first|assumption|lia);cbv)|(refine Br.mk (fun _=>?_) (fun _=>?_)<;>cbv)|(refine Need.mk ?_ ?_;rotate_left;cbv)|(refine R0 ?_;cbv))
          all_goals try(exfalso;clear hA hP2 hcl hst hkf hck hcw hlt hsm;lia)
          all_goals first
            | (have e : A = refA 1 := by (clear hP2 hcl hst hkf hck hcw hlt hsm h0 h1 h2 h3 hlen; rw [hA]; simp_all; done)
               rw[e,hP2];(repeat' apply And.intro)<;>first|rfl|exact WkR.refl _|exact h0|exact h1|exact h2|exact h3|exact True.intro|trace_state)
            | (have e : A = refA 4 := by (clear hP2 hcl hst hkf hck hcw hlt hsm h0 h1 h2 h3 hlen; rw [hA]; simp_all; done)
               rw[e,hP2];(repeat' apply And.intro)<;>first|rfl|exact WkR.refl _|exact h0|exact h1|exact h2|exact h3|exact True.intro|trace_state)
            | (have e : A = ⟨7, true, D, [], [], 0, 0, []⟩ := by (clear hP2 hcl hst hkf hck hcw hlt hsm h0 h1 h2 h3 hlen; rw [hA]; simp_all; done)
               rw[e,hP2];(repeat' apply And.intro)<;>first|rfl|exact WkR.refl _|exact h0|exact h1|exact h2|exact h3|exact True.intro|trace_state)
            | (have e : A = refA 3 := by (clear hP2 hcl hst hkf hck hcw hlt hsm h0 h1 h2 h3 hlen; rw [hA]; simp_all; done)
               rw[e,hP2];(repeat' apply And.intro)<;>first|rfl|exact WkR.refl _|exact h0|exact h1|exact h2|exact h3|exact True.intro|trace_state)
            | (have e : A = refA 2 := by (clear hP2 hcl hst hkf hck hcw hlt hsm h0 h1 h2 h3 hlen; rw [hA]; simp_all; done)
               rw[e,hP2];(repeat' apply And.intro)<;>first|rfl|exact WkR.refl _|exact h0|exact h1|exact h2|exact h3|exact True.intro|trace_state)
            | (have e : A = ans0 := by (clear hP2 hcl hst hkf hck hcw hlt hsm h0 h1 h2 h3 hlen; rw [hA]; simp_all; done)
               rw[e,hP2];(repeat' apply And.intro)<;>first|rfl|exact WkR.refl _|exact h0|exact h1|exact h2|exact h3|exact True.intro|trace_state)
            | trace_state
end Go.Sym
