/- Are two lists alike, by the document. -/
import Derived.Test.YtjlefaabcalkkaaGreatDoorK27
set_option linter.all false
set_option linter.unusedVariables false
set_option linter.unusedSimpArgs false
namespace Go.Sym
open Go Go.Proofs.Tryz
set_option maxRecDepth 100000
theorem rpairs_fn (O:Opq) (d e:List PairK) (hd:d.length≤9223372036854775807):Fn prog 13 [.sl false 0 false 2 (O.o Prs.enc d),.sl false 0 false 2 (O.o Prs.enc e)] [] [.bool (O.o sameP d e)] []:=by
 have hlen:=Prs.len O d
 have hlen2:=Prs.len O e
 obtain⟨N,hN⟩:∃ N:Nat,N=d.length:=⟨_,rfl⟩
 obtain⟨z,hz⟩:∃ z:Nat,z=0:=⟨_,rfl⟩
 refine go (fn:=Proofs.Tryz.f13) (n:=24) (rv:=[ResultVar.tmp 4]) rfl (by decide) rfl (by decide +kernel) rfl rfl (by simp) fun F L C=>?_
 cbv
 (repeat' first|(refine Nm fun _ _=>?_;cbv)|(refine Br.mk (fun _=>?_) (fun _=>?_)<;>cbv)|(refine R0 ?_;cbv))
 all_goals try first
  | (refine⟨?_,trivial⟩;simp only [O.h];exact sameP_len (by lia))
 refine LoopThen.mk (C.loopAt (ι:=Nat) [(4,5),(11,25)] (fun k=>[(4,.bool false),(5,.int .i64 k)]) (fun _=>[])
  (fun k=>k≤d.length∧∀ (j:Nat),j<k→d[j]?=e[j]?) (fun k=>N-k) (by decide +kernel) (Start.mk z [] [] ⟨by lia,fun j hj=>by omega⟩ (by cbv;(repeat' apply And.intro)<;>first|exact True.intro|exact WkR.refl _|rfl|lia)) ?_)
 intro k g
 cbv
 have g1:k≤d.length:=g.1
 have g2:=g.2
 clear g
 by_cases hk:k<d.length
 ·obtain⟨x,hx⟩:∃ x,d[k]?=some x:=⟨d[k],by simp [hk]⟩
  obtain⟨y,hy⟩:∃ y,e[k]?=some y:=⟨e[k]'(by lia),by simp⟩
  have hne:x≠y→O.o sameP d e=false:=fun h=>by simp only [O.h];exact sameP_at (k:=k) (by rw[hx,hy];simpa using h)
  have hst:x=y→∀ (j:Nat),j<k+1→d[j]?=e[j]?:=fun h j hj=>by
   by_cases ej:j=k
   ·subst ej;rw[hx,hy,h]
   ·exact g2 j (by omega)
  clear g2
  obtain⟨key,val⟩:=x
  obtain⟨key',val'⟩:=y
  (repeat' first|(refine Na ?_ fun _ _=>?_;(focus lia);cbv)|(refine Ex.known O PairK.enc rfl hx ?_ ?_;(focus lia);cbv)|(refine Ex.known O PairK.enc rfl hy ?_ ?_;(focus lia);cbv)|(refine Back.up [] [] ?_ ?_ fun _ _=>?_;rotate_left 2;cbv;refine And.intro ?_ ?_)|(refine Nm fun _ _=>?_;cbv)|(refine Br.t ?_ ?_;(focus first|assumption|lia);cbv)|(refine Br.mk (fun _=>?_) (fun _=>?_)<;>cbv)|(refine R0 ?_;cbv))
  all_goals(repeat' apply And.intro)
  all_goals try first
   | exact True.intro
   | exact WkR.refl _
   | (clear hx hy hne hst;lia)
  all_goals first
   | (refine hne fun h=>?_;simp only [PairK.mk.injEq] at h;clear hx hy hst;grind)
   | (refine hst ?_;simp only [PairK.mk.injEq];clear hx hy hne hst;grind)
   | trace_state
 ·(repeat' first|(refine Nm fun _ _=>?_;cbv)|(refine Br.f ?_ ?_;(focus first|assumption|lia);cbv)|(refine R0 ?_;cbv))
  all_goals(repeat' apply And.intro)
  all_goals try first
   | exact True.intro
   | lia
  all_goals
   simp only [O.h]
   exact sameP_all (by clear g2;lia) fun j hj=>g2 j (by clear g2;lia)
end Go.Sym
