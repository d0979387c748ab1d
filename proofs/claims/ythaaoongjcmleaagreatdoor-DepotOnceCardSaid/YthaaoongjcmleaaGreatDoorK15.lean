/- Which feeds are light; which are alike. -/
import Derived.Lib.Strings
import Derived.Test.YthaaoongjcmleaaGreatDoorK12
import Derived.Test.YthaaoongjcmleaaGreatDoorK14
set_option linter.all false
set_option linter.unusedVariables false
set_option linter.unusedSimpArgs false
namespace Go.Sym
open Go Go.Proofs.Tryz
set_option maxRecDepth 100000
theorem news_fn (O:Opq) (d e:List Change) (hd:d.length≤1099511627776) (hdd:∀ c∈d,c.doc.length≤1099511627776):Fn prog 38 [.sl false 0 false 4 (O.o (Chs.enc O) d),.sl false 0 false 4 (O.o (Chs.enc O) e)] [] [.bool (O.o sameC d e)] []:=by
 have hlen:=Chs.len O d
 have hlen2:=Chs.len O e
 obtain⟨N,hN⟩:∃ N:Nat,N=d.length:=⟨_,rfl⟩
 obtain⟨z,hz⟩:∃ z:Nat,z=0:=⟨_,rfl⟩
 refine go (fn:=Proofs.Tryz.f38) (n:=66) (rv:=[ResultVar.tmp 4]) rfl (by decide) rfl (by decide +kernel) rfl rfl (by simp) fun F L C=>?_
 cbv
 (repeat' first|(refine Na ?_ fun _ _=>?_;(focus lia);cbv)|(refine Nl fun _ _ hq=>?_;(try simp only [lenS] at hq);cbv)|(refine Nm fun _ _=>?_;cbv)|(refine Br.t ?_ ?_;(focus first|assumption|lia);cbv)|(refine Br.f ?_ ?_;(focus first|assumption|lia);cbv)|(refine Br.mk (fun _=>?_) (fun _=>?_)<;>cbv)|(refine Need.mk ?_ ?_;rotate_left;cbv)|(refine R0 ?_;cbv))
 all_goals try first
  | (refine⟨?_,trivial⟩;simp only [O.h];exact sameC_len (by lia))
 refine LoopThen.mk (C.loopAt (ι:=Nat) [(4,5),(11,67)] (fun k=>[(4,.bool false),(5,.int .i64 k)]) (fun _=>[])
  (fun k=>k≤d.length∧∀ (j:Nat),j<k→d[j]?=e[j]?) (fun k=>N-k) (by decide +kernel) (Start.mk z [] [] ⟨by lia,fun j hj=>by omega⟩ (by cbv;(repeat' apply And.intro)<;>first|exact True.intro|exact WkR.refl _|rfl|lia)) ?_)
 intro k g
 cbv
 have g1:k≤d.length:=g.1
 have g2:=g.2
 clear g
 by_cases hk:k<d.length
 ·obtain⟨x,hx⟩:∃ x,d[k]?=some x:=⟨d[k],by simp [hk]⟩
  obtain⟨y,hy⟩:∃ y,e[k]?=some y:=⟨e[k]'(by lia),by simp⟩
  have hxd:=hdd x (List.mem_of_getElem? hx)
  have hne:x≠y→O.o sameC d e=false:=fun h=>by simp only [O.h];exact sameC_at (k:=k) (by rw[hx,hy];simpa using h)
  have hst:x=y→∀ (j:Nat),j<k+1→d[j]?=e[j]?:=fun h j hj=>by
   by_cases ej:j=k
   ·subst ej;rw[hx,hy,h]
   ·exact g2 j (by omega)
  clear g2 hdd
  obtain⟨p,key,has,doc⟩:=x
  obtain⟨p',key',has',doc'⟩:=y
  have hsd:O.o sameDoc doc doc'=true ↔ doc=doc':=by rw[O.h];exact sameDoc_iff
  cases has<;>cases has'<;>(repeat' first|(refine Na ?_ fun _ _=>?_;(focus lia);cbv)|(refine Ex.known O (Change.enc O) rfl hx ?_ ?_;(focus lia);cbv)|(refine Ex.known O (Change.enc O) rfl hy ?_ ?_;(focus lia);cbv)|(refine CallThen.bool (C.fn (rsame_fn O doc doc' hxd)) (fun _=>?_) (fun _=>?_)<;>cbv)|(refine Back.up [] [] ?_ ?_ fun _ _=>?_;rotate_left 2;cbv;refine And.intro ?_ ?_)|(refine Nl fun _ _ hq=>?_;(try simp only [lenS] at hq);cbv)|(refine Nm fun _ _=>?_;cbv)|(refine Br.t ?_ ?_;(focus first|assumption|lia);cbv)|(refine Br.f ?_ ?_;(focus first|assumption|lia);cbv)|(refine Br.mk (fun _=>?_) (fun _=>?_)<;>cbv)|(refine Need.mk ?_ ?_;rotate_left;cbv)|(refine R0 ?_;cbv))
  all_goals(repeat' apply And.intro)
  all_goals try first
   | exact True.intro
   | exact WkR.refl _
   | (clear hx hy hne hst hsd;lia)
  all_goals first
   | (refine hne fun h=>?_;cases h;clear hx hy hst;simp_all;done)
   | (refine hne fun h=>?_;simp only [Change.mk.injEq] at h;clear hx hy hst;grind)
   | (refine hst ?_;simp only [Change.mk.injEq];clear hx hy hne hst;grind)
   | trace_state
 ·(repeat' first|(refine Na ?_ fun _ _=>?_;(focus lia);cbv)|(refine Nl fun _ _ hq=>?_;(try simp only [lenS] at hq);cbv)|(refine Nm fun _ _=>?_;cbv)|(refine Br.t ?_ ?_;(focus first|assumption|lia);cbv)|(refine Br.f ?_ ?_;(focus first|assumption|lia);cbv)|(refine Br.mk (fun _=>?_) (fun _=>?_)<;>cbv)|(refine Need.mk ?_ ?_;rotate_left;cbv)|(refine R0 ?_;cbv))
  all_goals(repeat' apply And.intro)
  all_goals try first
   | exact True.intro
   | lia
  all_goals
   simp only [O.h]
   exact sameC_all (by clear g2;lia) fun j hj=>g2 j (by clear g2;lia)
theorem rsameF_fn (O:Opq) (f g:Feed) (hd:f.changes.length≤1099511627776) (hs:f.subs.length≤1099511627776) (hdd:∀ c∈f.changes,c.doc.length≤1099511627776):Fn prog 59 [.agg (f.enc O),.agg (g.enc O)] [] [.bool (O.o sameF f g)] []:=by
 have hlen:=Subs.len O f.subs
 have hlen2:=Subs.len O g.subs
 have hne:f≠g→O.o sameF f g=false:=fun h=>by simp only [O.h];exact sameF_no h
 have hsc:O.o sameC f.changes g.changes=true ↔ f.changes=g.changes:=by rw[O.h];exact sameC_iff
 obtain⟨N,hN⟩:∃ N:Nat,N=f.subs.length:=⟨_,rfl⟩
 obtain⟨z,hz⟩:∃ z:Nat,z=0:=⟨_,rfl⟩
 refine go (fn:=Proofs.Tryz.f59) (n:=51) (rv:=[ResultVar.tmp 4]) rfl (by decide) rfl (by decide +kernel) rfl rfl (by simp) fun F L C=>?_
 cbv
 (repeat' first|(refine Na ?_ fun _ _=>?_;(focus lia);cbv)|(refine CallThen.bool (C.fn (news_fn O f.changes g.changes hd hdd)) (fun _=>?_) (fun _=>?_)<;>cbv)|(refine Nl fun _ _ hq=>?_;(try simp only [lenS] at hq);cbv)|(refine Nm fun _ _=>?_;cbv)|(refine Br.t ?_ ?_;(focus first|assumption|lia);cbv)|(refine Br.f ?_ ?_;(focus first|assumption|lia);cbv)|(refine Br.mk (fun _=>?_) (fun _=>?_)<;>cbv)|(refine Need.mk ?_ ?_;rotate_left;cbv)|(refine R0 ?_;cbv))
 all_goals try first
  | (refine⟨hne fun h=>?_,trivial⟩;subst h;clear hdd;grind)
 have e1:f.base=g.base:=by lia
 have e2:f.total=g.total:=by lia
 have e3:f.changes=g.changes:=hsc.1 (by assumption)
 have e4:f.subs.length=g.subs.length:=by lia
 refine LoopThen.mk (C.loopAt (ι:=Nat) [(4,5),(35,52)] (fun k=>[(4,.bool false),(5,.int .i64 k)]) (fun _=>[(256,.box (f.enc O)),(320,.box (g.enc O))])
  (fun k=>k≤f.subs.length∧∀ (j:Nat),j<k→f.subs[j]?=g.subs[j]?) (fun k=>N-k) (by decide +kernel) (Start.mk z [] [] ⟨by lia,fun j hj=>by omega⟩ (by cbv;(repeat' apply And.intro)<;>first|exact True.intro|exact WkR.refl _|rfl|lia)) ?_)
 intro k g0
 cbv
 have g1:k≤f.subs.length:=g0.1
 have g2:=g0.2
 clear g0
 by_cases hk:k<f.subs.length
 ·obtain⟨x,hx⟩:∃ x,f.subs[k]?=some x:=⟨f.subs[k],by simp [hk]⟩
  obtain⟨y,hy⟩:∃ y,g.subs[k]?=some y:=⟨g.subs[k]'(by omega),by simp⟩
  have hne2:x≠y→O.o sameF f g=false:=fun h=>hne fun e=>h (by subst e;rw[hx] at hy;cases hy;rfl)
  have hst:x=y→∀ (j:Nat),j<k+1→f.subs[j]?=g.subs[j]?:=fun h j hj=>by
   by_cases ej:j=k
   ·subst ej;rw[hx,hy,h]
   ·exact g2 j (by omega)
  clear g2 hdd hne
  obtain⟨nm,p⟩:=x
  obtain⟨nm',p'⟩:=y
  (repeat' first|(refine Na ?_ fun _ _=>?_;(focus lia);cbv)|(refine Ex.known O Sub.enc rfl hx ?_ ?_;(focus lia);cbv)|(refine Ex.known O Sub.enc rfl hy ?_ ?_;(focus lia);cbv)|(refine Back.up [] [] ?_ ?_ fun _ _=>?_;rotate_left 2;cbv;refine And.intro ?_ ?_)|(refine Nl fun _ _ hq=>?_;(try simp only [lenS] at hq);cbv)|(refine Nm fun _ _=>?_;cbv)|(refine Br.t ?_ ?_;(focus first|assumption|lia);cbv)|(refine Br.f ?_ ?_;(focus first|assumption|lia);cbv)|(refine Br.mk (fun _=>?_) (fun _=>?_)<;>cbv)|(refine Need.mk ?_ ?_;rotate_left;cbv)|(refine R0 ?_;cbv))
  all_goals(repeat' apply And.intro)
  all_goals try first
   | exact True.intro
   | exact WkR.refl _
   | (clear hx hy hne2 hst hsc;lia)
  all_goals first
   | (refine hne2 fun h=>?_;simp only [Sub.mk.injEq] at h;clear hx hy hst;simp_all;done)
   | (refine hst ?_;simp only [Sub.mk.injEq];clear hx hy hne2 hst;simp_all;done)
   | trace_state
 ·(repeat' first|(refine Na ?_ fun _ _=>?_;(focus lia);cbv)|(refine Nl fun _ _ hq=>?_;(try simp only [lenS] at hq);cbv)|(refine Nm fun _ _=>?_;cbv)|(refine Br.t ?_ ?_;(focus first|assumption|lia);cbv)|(refine Br.f ?_ ?_;(focus first|assumption|lia);cbv)|(refine Br.mk (fun _=>?_) (fun _=>?_)<;>cbv)|(refine Need.mk ?_ ?_;rotate_left;cbv)|(refine R0 ?_;cbv))
  all_goals(repeat' apply And.intro)
  all_goals try first
   | exact True.intro
   | lia
  all_goals
   simp only [O.h]
   exact sameF_ok e1 e2 e3 e4 fun j hj=>g2 j (by clear g2;lia)
end Go.Sym
