/- Are two answers alike, by the document. -/
import Derived.Test.YtfdbdalnpdgfmaaGreatDoorK28
set_option linter.all false
set_option linter.unusedVariables false
set_option linter.unusedSimpArgs false
namespace Go.Sym
open Go Go.Proofs.Tryz
set_option maxRecDepth 100000
open Classical in
noncomputable def sameAns (a b:Answer):Bool:=decide (a=b)
set_option maxHeartbeats 1000000 in
theorem ransw_fn (O:Opq) (a b:Answer) (h1:a.doc.length≤9223372036854775807) (h2:a.docs.length≤9223372036854775807∧∀ c∈a.docs,c.doc.length≤9223372036854775807) (h3:a.news.length≤9223372036854775807∧∀ c∈a.news,c.doc.length≤9223372036854775807) (h4:a.keys.length≤9223372036854775807):Fn prog 11 [.agg (a.enc O),.agg (b.enc O)] [] [.bool (O.o sameAns a b)] []:=by
  have k1:=rsameW_fn O a.doc b.doc h1
  have k2:=r12docs_fn O a.docs b.docs h2.1 h2.2
  have k3:=newsW_fn O a.news b.news h3.1 h3.2
  have k4:=rpairs_fn O a.keys b.keys h4
  have hQ:O.o sameAns a b=true ↔ a.code=b.code∧a.has=b.has∧a.n=b.n∧a.total=b.total∧O.o sameDoc a.doc b.doc=true∧O.o sameNs a.docs b.docs=true∧O.o sameC a.news b.news=true∧O.o sameP a.keys b.keys=true:=by
    simp only [O.h,sameAns,sameDoc,sameNs,sameC,sameP,decide_eq_true_eq]
    obtain⟨c,h,d,ds,ns,n,t,ks⟩:=a
    obtain⟨c',h',d',ds',ns',n',t',ks'⟩:=b
    simp only [Answer.mk.injEq]
    constructor
    · rintro ⟨a,b,c,d,e,f,g,h⟩;exact⟨a,b,f,g,c,d,e,h⟩
    · rintro ⟨a,b,f,g,c,d,e,h⟩;exact⟨a,b,c,d,e,f,g,h⟩
  obtain⟨s1,e1⟩:∃ s,s=O.o sameDoc a.doc b.doc:=⟨_,rfl⟩
  obtain⟨s2,e2⟩:∃ s,s=O.o sameNs a.docs b.docs:=⟨_,rfl⟩
  obtain⟨s3,e3⟩:∃ s,s=O.o sameC a.news b.news:=⟨_,rfl⟩
  obtain⟨s4,e4⟩:∃ s,s=O.o sameP a.keys b.keys:=⟨_,rfl⟩
  obtain⟨Q,eQ⟩:∃ s,s=O.o sameAns a b:=⟨_,rfl⟩
  rw[← e1] at k1 hQ
  rw[← e2] at k2 hQ
  rw[← e3] at k3 hQ
  rw[← e4] at k4 hQ
  rw[← eQ] at hQ ⊢
  clear e1 e2 e3 e4 eQ h1 h2 h3 h4
  obtain⟨c,h,d,ds,ns,n,t,ks⟩:=a
  obtain⟨c',h',d',ds',ns',n',t',ks'⟩:=b
  replace hQ:Q=true ↔ c=c'∧h=h'∧n=n'∧t=t'∧s1=true∧s2=true∧s3=true∧s4=true:=hQ
  cases h<;>cases h'
  all_goals
    refine go (fn:=Proofs.Tryz.f11) (n:=57) (rv:=[ResultVar.tmp 4]) rfl (by decide) rfl (by decide +kernel) rfl rfl (by simp) fun F L C=>?_
    cbv
    (repeat' first|(refine Na ?_ fun _ _=>?_;(focus lia);cbv)|(refine CallThen.bool (C.fn (k1)) (fun _=>?_) (fun _=>?_)<;>cbv)|(refine CallThen.bool (C.fn (k2)) (fun _=>?_) (fun _=>?_)<;>cbv)|(refine CallThen.bool (C.fn (k3)) (fun _=>?_) (fun _=>?_)<;>cbv)|(refine CallThen.bool (C.fn (k4)) (fun _=>?_) (fun _=>?_)<;>cbv)|(refine Nl fun _ _ hq=>?_;(try simp only [lenS] at hq);cbv)|(refine Nm fun _ _=>?_;cbv)|(refine Br.t ?_ ?_;(focus first|assumption|lia);cbv)|(refine Br.f ?_ ?_;(focus first|assumption|lia);cbv)|(refine Br.mk (fun _=>?_) (fun _=>?_)<;>cbv)|(refine Need.mk ?_ ?_;rotate_left;cbv)|(refine R0 ?_;cbv))
    all_goals try(exfalso;clear hQ k1 k2 k3 k4;lia)
    all_goals
      refine⟨?_,trivial⟩
      clear k1 k2 k3 k4
      first
        | (refine hQ.2 ?_;simp_all;done)
        | (cases hb : Q with
           | false=>rfl
           | true=>exfalso;have:=hQ.1 hb;clear hQ;simp_all;done)
        | trace_state
end Go.Sym
