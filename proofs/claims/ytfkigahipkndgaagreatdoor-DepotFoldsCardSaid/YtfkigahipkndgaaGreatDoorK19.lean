/- What is asked: scan. -/
import Derived.Test.YtfkigahipkndgaaGreatDoorK9
import Derived.Test.YtfkigahipkndgaaGreatDoorK18
set_option linter.all false
set_option linter.unusedVariables false
set_option linter.unusedSimpArgs false
namespace Go.Sym
open Go Go.Proofs.Tryz
set_option maxRecDepth 100000
set_option maxHeartbeats 4000000 in
theorem apply_scan (O:Opq) (l:List Ndoc) (o:Opn) (total:Int) (hm:mayD l=true) (ht:0≤total∧total≤2147483643) (hk:o.kind=5) (hR:True)
  : Fn prog 136 [.sl false 0 false 2 (O.o (Nms.enc O) l),.agg (o.en O),.int .i64 total] [] [.sl false 0 false 2 (O.o (Nms.enc O) l),.agg ((O.o (scanA l) o).enc O),.sl false 0 false 4 [],.int .i64 0] []:=by
 have hlen:=Nms.len O l
 obtain⟨m1,m2,m3⟩:=mayD_iff.1 hm
 have hdl:∀ n∈l,n.doc.length≤1099511627:=fun n hn=>by have:=may_len (m2 n hn).2;omega
 have hck:=scheck_fn O l (by omega) (fun n hn=>by have:=hdl n hn;omega)
 have how:Fn prog 190 [.sl false 0 false 2 (O.o (Nms.enc O) l)] [] [.sl false 0 false 2 (O.o (Nms.enc O) l)] []:=(ownNW_fn O l (by omega) hdl).wkA (.cons (.lend rfl) .nil)
 rw[show O.o mayDE l=0 by rw[O.h];exact mayDE_zero.2 hm] at hck
 have hsc:=scan_fn O l o (by omega) hdl
 have hw:=writes_fn O o
 have hw0:O.o writesB o=false:=by rw[O.h,writesB,hk];decide
 rw[hw0] at hw
 obtain⟨R3,e3⟩:∃ R:List Change,R=[]:=⟨_,rfl⟩
 have h30:O.o (Chs.enc O) R3=[]:=by rw[e3,O.h];rfl
 rw[← h30]
 obtain⟨R2,e2⟩:∃ R,R=O.o (scanA l) o:=⟨_,rfl⟩
 rw[← e2] at hsc ⊢
 clear hm m2 m3 hdl e2 hw0
 have hd3:∀ c∈R3,c.doc.length≤1099511627:=by rw[e3];simp
 have hc3:=Chs.len O R3
 have h3l:R3.length≤1099511627776:=by rw[e3];simp
 obtain⟨N,hN⟩:∃ N:Nat,N=R3.length:=⟨_,rfl⟩
 obtain⟨z,hz⟩:∃ z:Nat,z=0:=⟨_,rfl⟩
 have hR3:O.o (Chs.enc O) R3=[]:=h30
 clear hR
 obtain⟨kind,key,to,doc,want,has,n,most,list,docs,news⟩:=o
 replace hk:kind=5:=hk
 refine go (fn:=Proofs.Tryz.f136) (n:=89) (rv:=[ResultVar.tmp 6,ResultVar.cell 7 37,ResultVar.tmp 8,ResultVar.tmp 9]) rfl (by decide) rfl (by decide +kernel) rfl rfl (by simp) fun F L C=>?_
 cbv
 (repeat' first|(refine Na ?_ fun _ _=>?_;(focus lia);cbv)|(refine CallThen.mk _ _ (C.fn (hck)) ?_;cbv)|(refine CallThen.mk _ _ (C.fn (how)) ?_;cbv)|(refine CallThen.mk _ _ (C.fn (hw)) ?_;cbv)|(refine CallThen.mk _ _ (C.fn (hsc)) ?_;cbv)|(refine Nl fun _ _ hq=>?_;(try simp only [lenS] at hq);cbv)|(refine Nm fun _ _=>?_;cbv)|(refine Br.t ?_ ?_;(focus first|assumption|lia);cbv)|(refine Br.f ?_ ?_;(focus first|assumption|lia);cbv)|(refine Br.mk (fun _=>?_) (fun _=>?_)<;>cbv)|(refine Need.mk ?_ ?_;rotate_left;cbv)|(refine R0 ?_;cbv))
 all_goals try(exfalso;clear hck how hd3 hR3;lia)
 refine LoopThen.mk (C.loopAt (ι:=Nat) [(12,12),(75,88)] (fun i=>[(75,.int .i64 i),(11,.ref 50)]) (fun i=>[(50,.arr 0 none 4 (O.o (Chs.enc O) R3)),(384,.box [.int .i64 kind,.str key,.str to,.sl false 0 false 6 (O.o Doc.enc doc),.sl false 0 false 6 (O.o Doc.enc want),.bool has,.int .i64 n,.int .i64 most,.sl false 0 false 11 (O.o (Ops.enc O) list),.sl false 0 false 2 (O.o (Nms.enc O) docs),.sl false 0 false 4 (O.o (Chs.enc O) news)]),(576,.box [.int .i64 0,.bool false,.nils,.nils,.nils,.int .i64 0,.int .i64 0,.nils]),(768,.box (R2.enc O))])
  (fun i=>i≤N) (fun i=>N-i) (by decide +kernel) (Start.mk z [(50,.nil 4)] [] (by lia) ?_) ?_)
 ·cbv
  (repeat' apply And.intro)<;>first|exact True.intro|exact WkR.refl _|rfl|exact hR3|lia|trace_state
 intro i g1
 cbv
 by_cases hi:i<R3.length
 ·exfalso
  rw[e3] at hi
  simp at hi
 ·clear hd3 hck how hR3
  (repeat' first|(refine Na ?_ fun _ _=>?_;(focus lia);cbv)|(refine RetThen.mk [] [50] ?_;cbv)|(refine Nl fun _ _ hq=>?_;(try simp only [lenS] at hq);cbv)|(refine Nm fun _ _=>?_;cbv)|(refine Br.t ?_ ?_;(focus first|assumption|lia);cbv)|(refine Br.f ?_ ?_;(focus first|assumption|lia);cbv)|(refine Br.mk (fun _=>?_) (fun _=>?_)<;>cbv)|(refine Need.mk ?_ ?_;rotate_left;cbv)|(refine R0 ?_;cbv))
  all_goals(repeat' apply And.intro)
  all_goals first
   | exact True.intro
   | exact WkR.refl _
   | rfl
   | lia
   | (refine Nm fun rs e=>⟨.of_eq e.symm,?_⟩;cbv)
   | (refine WkR.of_eq ?_;symm;assumption)
   | trace_state
open Classical in
noncomputable def sameN1 (x y:Ndoc):Bool:=decide (x=y)
theorem sameN1_iff {x y:Ndoc}:sameN1 x y=true ↔ x=y:=by simp [sameN1]
theorem sameN1_no {x y:Ndoc} (h:x≠y):sameN1 x y=false:=by simp [sameN1,h]
theorem equalP_fn (O:Opq) (d e:List PairK) (hd:d.length≤9223372036854775807):Fn prog 128 [.sl false 0 false 2 (O.o Prs.enc d),.sl false 0 false 2 (O.o Prs.enc e)] [] [.bool (O.o sameP d e)] []:=by
 have hlen:=Prs.len O d
 have hlen2:=Prs.len O e
 obtain⟨N,hN⟩:∃ N:Nat,N=d.length:=⟨_,rfl⟩
 obtain⟨z,hz⟩:∃ z:Nat,z=0:=⟨_,rfl⟩
 refine go (fn:=Proofs.Tryz.f128) (n:=24) (rv:=[ResultVar.tmp 4]) rfl (by decide) rfl (by decide +kernel) rfl rfl (by simp) fun F L C=>?_
 cbv
 (repeat' first|(refine Na ?_ fun _ _=>?_;(focus lia);cbv)|(refine Nl fun _ _ hq=>?_;(try simp only [lenS] at hq);cbv)|(refine Nm fun _ _=>?_;cbv)|(refine Br.t ?_ ?_;(focus first|assumption|lia);cbv)|(refine Br.f ?_ ?_;(focus first|assumption|lia);cbv)|(refine Br.mk (fun _=>?_) (fun _=>?_)<;>cbv)|(refine Need.mk ?_ ?_;rotate_left;cbv)|(refine R0 ?_;cbv))
 all_goals try first
  | (refine⟨?_,trivial⟩;simp only [O.h];exact sameP_len (by lia))
 refine LoopThen.mk (C.loopAt (ι:=Nat) [(4,5),(13,25)] (fun k=>[(4,.bool false),(13,.int .i64 k)]) (fun _=>[])
  (fun k=>k≤d.length∧∀ (j:Nat),j<k→d[j]?=e[j]?) (fun k=>N-k) (by decide +kernel) (Start.mk z [] [] ⟨by lia,fun j hj=>by omega⟩ (by cbv;(repeat' apply And.intro)<;>first|exact True.intro|exact WkR.refl _|rfl|lia)) ?_)
 intro k g
 cbv
 have g1:k≤d.length:=g.1
 have g2:=g.2
 clear g
 by_cases hk:k<d.length
 ·obtain⟨x,hx⟩:∃ x,d[k]?=some x:=⟨d[k],by simp [hk]⟩
  obtain⟨y,hy⟩:∃ y,e[k]?=some y:=⟨e[k]'(by lia),by simp⟩
  have hne:x≠y→O.o sameP d e=false:=fun h=>by simp only [O.h];exact sameP_at (k:=k) (by rw[hx,hy];simpa using h)
  have hst:x=y→∀ (j:Nat),j<k+1→d[j]?=e[j]?:=fun h j hj=>by
   by_cases ej:j=k
   ·subst ej;rw[hx,hy,h]
   ·exact g2 j (by omega)
  clear g2
  obtain⟨nm,p⟩:=x
  obtain⟨nm',p'⟩:=y
  (repeat' first|(refine Na ?_ fun _ _=>?_;(focus lia);cbv)|(refine Ex.known O PairK.enc rfl hx ?_ ?_;(focus lia);cbv)|(refine Ex.known O PairK.enc rfl hy ?_ ?_;(focus lia);cbv)|(refine Back.up [] [] ?_ ?_ fun _ _=>?_;rotate_left 2;cbv;refine And.intro ?_ ?_)|(refine Nl fun _ _ hq=>?_;(try simp only [lenS] at hq);cbv)|(refine Nm fun _ _=>?_;cbv)|(refine Br.t ?_ ?_;(focus first|assumption|lia);cbv)|(refine Br.f ?_ ?_;(focus first|assumption|lia);cbv)|(refine Br.mk (fun _=>?_) (fun _=>?_)<;>cbv)|(refine Need.mk ?_ ?_;rotate_left;cbv)|(refine R0 ?_;cbv))
  all_goals(repeat' apply And.intro)
  all_goals try first
   | exact True.intro
   | exact WkR.refl _
   | (clear hx hy hne hst;lia)
  all_goals first
   | (refine hne fun h=>?_;simp only [PairK.mk.injEq] at h;clear hx hy hst;simp_all;done)
   | (refine hst ?_;simp only [PairK.mk.injEq];clear hx hy hne hst;simp_all;done)
   | trace_state
 ·(repeat' first|(refine Na ?_ fun _ _=>?_;(focus lia);cbv)|(refine Nl fun _ _ hq=>?_;(try simp only [lenS] at hq);cbv)|(refine Nm fun _ _=>?_;cbv)|(refine Br.t ?_ ?_;(focus first|assumption|lia);cbv)|(refine Br.f ?_ ?_;(focus first|assumption|lia);cbv)|(refine Br.mk (fun _=>?_) (fun _=>?_)<;>cbv)|(refine Need.mk ?_ ?_;rotate_left;cbv)|(refine R0 ?_;cbv))
  all_goals(repeat' apply And.intro)
  all_goals try first
   | exact True.intro
   | lia
  all_goals
   simp only [O.h]
   exact sameP_all (by clear g2;lia) fun j hj=>g2 j (by clear g2;lia)
theorem ssame2_fn (O:Opq) (x y:Change) (hx:x.doc.length≤9223372036854775807):Fn prog 125 [.agg (x.enc O),.agg (y.enc O)] [] [.bool (O.o sameCh1 x y)] []:=by
 obtain⟨p,key,has,doc⟩:=x
 obtain⟨p',key',has',doc'⟩:=y
 have hne:(⟨p,key,has,doc⟩:Change)≠⟨p',key',has',doc'⟩→O.o sameCh1 ⟨p,key,has,doc⟩ ⟨p',key',has',doc'⟩=false:=fun h=>by simp only [O.h];exact sameCh1_no h
 have heq:(⟨p,key,has,doc⟩:Change)=⟨p',key',has',doc'⟩→O.o sameCh1 ⟨p,key,has,doc⟩ ⟨p',key',has',doc'⟩=true:=fun h=>by simp only [O.h];exact sameCh1_iff.2 h
 have hsd:O.o sameDoc doc doc'=true ↔ doc=doc':=by rw[O.h];exact sameDoc_iff
 cases has<;>cases has'
 all_goals
  refine go (fn:=Proofs.Tryz.f125) (n:=29) (rv:=[ResultVar.tmp 4]) rfl (by decide) rfl (by decide +kernel) rfl rfl (by simp) fun F L C=>?_
  cbv
  (repeat' first|(refine Na ?_ fun _ _=>?_;(focus lia);cbv)|(refine CallThen.bool (C.fn (sameW_fn O doc doc' hx)) (fun _=>?_) (fun _=>?_)<;>cbv)|(refine Nl fun _ _ hq=>?_;(try simp only [lenS] at hq);cbv)|(refine Nm fun _ _=>?_;cbv)|(refine Br.t ?_ ?_;(focus first|assumption|lia);cbv)|(refine Br.f ?_ ?_;(focus first|assumption|lia);cbv)|(refine Br.mk (fun _=>?_) (fun _=>?_)<;>cbv)|(refine Need.mk ?_ ?_;rotate_left;cbv)|(refine R0 ?_;cbv))
  all_goals refine⟨?_,trivial⟩
  all_goals first
   | (refine hne fun h=>?_;cases h;clear hne heq;simp_all;done)
   | (refine hne fun h=>?_;simp only [Change.mk.injEq] at h;clear hne heq;grind)
   | (refine heq ?_;simp only [Change.mk.injEq];clear hne heq;grind)
   | trace_state
theorem ssame1_fn (O:Opq) (x y:Ndoc) (hx:x.doc.length≤9223372036854775807):Fn prog 123 [.agg (x.enc O),.agg (y.enc O)] [] [.bool (O.o sameN1 x y)] []:=by
 obtain⟨key,doc⟩:=x
 obtain⟨key',doc'⟩:=y
 have hne:(⟨key,doc⟩:Ndoc)≠⟨key',doc'⟩→O.o sameN1 ⟨key,doc⟩ ⟨key',doc'⟩=false:=fun h=>by simp only [O.h];exact sameN1_no h
 have heq:(⟨key,doc⟩:Ndoc)=⟨key',doc'⟩→O.o sameN1 ⟨key,doc⟩ ⟨key',doc'⟩=true:=fun h=>by simp only [O.h];exact sameN1_iff.2 h
 have hsd:O.o sameDoc doc doc'=true ↔ doc=doc':=by rw[O.h];exact sameDoc_iff
 refine go (fn:=Proofs.Tryz.f123) (n:=15) (rv:=[ResultVar.tmp 4]) rfl (by decide) rfl (by decide +kernel) rfl rfl (by simp) fun F L C=>?_
 cbv
 (repeat' first|(refine Na ?_ fun _ _=>?_;(focus lia);cbv)|(refine CallThen.bool (C.fn (sameW_fn O doc doc' hx)) (fun _=>?_) (fun _=>?_)<;>cbv)|(refine Nl fun _ _ hq=>?_;(try simp only [lenS] at hq);cbv)|(refine Nm fun _ _=>?_;cbv)|(refine Br.t ?_ ?_;(focus first|assumption|lia);cbv)|(refine Br.f ?_ ?_;(focus first|assumption|lia);cbv)|(refine Br.mk (fun _=>?_) (fun _=>?_)<;>cbv)|(refine Need.mk ?_ ?_;rotate_left;cbv)|(refine R0 ?_;cbv))
 all_goals refine⟨?_,trivial⟩
 all_goals first
  | (refine hne fun h=>?_;simp only [Ndoc.mk.injEq] at h;clear hne heq;grind)
  | (refine heq ?_;simp only [Ndoc.mk.injEq];clear hne heq;grind)
  | trace_state
theorem equalC2_fn (O:Opq) (d e:List Change) (hd:d.length≤9223372036854775807) (hdd:∀ c∈d,c.doc.length≤9223372036854775807):Fn prog 127 [.sl false 0 false 4 (O.o (Chs.enc O) d),.sl false 0 false 4 (O.o (Chs.enc O) e),.fn 125 [] []] [] [.bool (O.o sameC d e)] []:=by
 have hlen:=Chs.len O d
 have hlen2:=Chs.len O e
 obtain⟨N,hN⟩:∃ N:Nat,N=d.length:=⟨_,rfl⟩
 obtain⟨z,hz⟩:∃ z:Nat,z=0:=⟨_,rfl⟩
 refine go (fn:=Proofs.Tryz.f127) (n:=29) (rv:=[ResultVar.tmp 6]) rfl (by decide) rfl (by decide +kernel) rfl rfl (by simp) fun F L C=>?_
 cbv
 (repeat' first|(refine Na ?_ fun _ _=>?_;(focus lia);cbv)|(refine Nl fun _ _ hq=>?_;(try simp only [lenS] at hq);cbv)|(refine Nm fun _ _=>?_;cbv)|(refine Br.t ?_ ?_;(focus first|assumption|lia);cbv)|(refine Br.f ?_ ?_;(focus first|assumption|lia);cbv)|(refine Br.mk (fun _=>?_) (fun _=>?_)<;>cbv)|(refine Need.mk ?_ ?_;rotate_left;cbv)|(refine R0 ?_;cbv))
 all_goals try first
  | (refine⟨?_,trivial⟩;simp only [O.h];exact sameC_len (by lia))
 refine LoopThen.mk (C.loopAt (ι:=Nat) [(6,9),(17,31)] (fun k=>[(6,.bool false),(17,.int .i64 k)]) (fun _=>[])
  (fun k=>k≤d.length∧∀ (j:Nat),j<k→d[j]?=e[j]?) (fun k=>N-k) (by decide +kernel) (Start.mk z [] [] ⟨by lia,fun j hj=>by omega⟩ (by cbv;(repeat' apply And.intro)<;>first|exact True.intro|exact WkR.refl _|rfl|lia)) ?_)
 intro k g
 cbv
 have g1:k≤d.length:=g.1
 have g2:=g.2
 clear g
 by_cases hk:k<d.length
 ·obtain⟨x,hx⟩:∃ x,d[k]?=some x:=⟨d[k],by simp [hk]⟩
  obtain⟨y,hy⟩:∃ y,e[k]?=some y:=⟨e[k]'(by lia),by simp⟩
  have hxd:=hdd x (List.mem_of_getElem? hx)
  have hne:x≠y→O.o sameC d e=false:=fun h=>by simp only [O.h];exact sameC_at (k:=k) (by rw[hx,hy];simpa using h)
  have hst:x=y→∀ (j:Nat),j<k+1→d[j]?=e[j]?:=fun h j hj=>by
   by_cases ej:j=k
   ·subst ej;rw[hx,hy,h]
   ·exact g2 j (by omega)
  have hso:O.o sameCh1 x y=true ↔ x=y:=by rw[O.h];exact sameCh1_iff
  clear g2 hdd
  (repeat' first|(refine Na ?_ fun _ _=>?_;(focus lia);cbv)|(refine Ex.known O (Change.enc O) rfl hx ?_ ?_;(focus lia);cbv)|(refine Ex.known O (Change.enc O) rfl hy ?_ ?_;(focus lia);cbv)|(refine CallThen.bool (C.fn (ssame2_fn O x y hxd)) (fun _=>?_) (fun _=>?_)<;>cbv)|(refine Back.up [] [] ?_ ?_ fun _ _=>?_;rotate_left 2;cbv;refine And.intro ?_ ?_)|(refine Nl fun _ _ hq=>?_;(try simp only [lenS] at hq);cbv)|(refine Nm fun _ _=>?_;cbv)|(refine Br.t ?_ ?_;(focus first|assumption|lia);cbv)|(refine Br.f ?_ ?_;(focus first|assumption|lia);cbv)|(refine Br.mk (fun _=>?_) (fun _=>?_)<;>cbv)|(refine Need.mk ?_ ?_;rotate_left;cbv)|(refine R0 ?_;cbv))
  all_goals(repeat' apply And.intro)
  all_goals try first
   | exact True.intro
   | exact WkR.refl _
   | (clear hx hy hne hst hso;lia)
  all_goals first
   | (refine hne fun h=>?_;rename_i hh;have hh:O.o sameCh1 x y=false:=hh;rw[hso.2 h] at hh;cases hh;done)
   | (refine hst (hso.1 ?_);assumption)
   | trace_state
 ·(repeat' first|(refine Na ?_ fun _ _=>?_;(focus lia);cbv)|(refine Nl fun _ _ hq=>?_;(try simp only [lenS] at hq);cbv)|(refine Nm fun _ _=>?_;cbv)|(refine Br.t ?_ ?_;(focus first|assumption|lia);cbv)|(refine Br.f ?_ ?_;(focus first|assumption|lia);cbv)|(refine Br.mk (fun _=>?_) (fun _=>?_)<;>cbv)|(refine Need.mk ?_ ?_;rotate_left;cbv)|(refine R0 ?_;cbv))
  all_goals(repeat' apply And.intro)
  all_goals try first
   | exact True.intro
   | lia
  all_goals
   simp only [O.h]
   exact sameC_all (by clear g2;lia) fun j hj=>g2 j (by clear g2;lia)
theorem equalN_fn (O:Opq) (d e:List Ndoc) (hd:d.length≤9223372036854775807) (hdd:∀ c∈d,c.doc.length≤9223372036854775807):Fn prog 126 [.sl false 0 false 2 (O.o (Nms.enc O) d),.sl false 0 false 2 (O.o (Nms.enc O) e),.fn 123 [] []] [] [.bool (O.o sameNs d e)] []:=by
 have hlen:=Nms.len O d
 have hlen2:=Nms.len O e
 obtain⟨N,hN⟩:∃ N:Nat,N=d.length:=⟨_,rfl⟩
 obtain⟨z,hz⟩:∃ z:Nat,z=0:=⟨_,rfl⟩
 refine go (fn:=Proofs.Tryz.f126) (n:=29) (rv:=[ResultVar.tmp 6]) rfl (by decide) rfl (by decide +kernel) rfl rfl (by simp) fun F L C=>?_
 cbv
 (repeat' first|(refine Na ?_ fun _ _=>?_;(focus lia);cbv)|(refine Nl fun _ _ hq=>?_;(try simp only [lenS] at hq);cbv)|(refine Nm fun _ _=>?_;cbv)|(refine Br.t ?_ ?_;(focus first|assumption|lia);cbv)|(refine Br.f ?_ ?_;(focus first|assumption|lia);cbv)|(refine Br.mk (fun _=>?_) (fun _=>?_)<;>cbv)|(refine Need.mk ?_ ?_;rotate_left;cbv)|(refine R0 ?_;cbv))
 all_goals try first
  | (refine⟨?_,trivial⟩;simp only [O.h];exact sameNs_len (by lia))
 refine LoopThen.mk (C.loopAt (ι:=Nat) [(6,9),(17,31)] (fun k=>[(6,.bool false),(17,.int .i64 k)]) (fun _=>[])
  (fun k=>k≤d.length∧∀ (j:Nat),j<k→d[j]?=e[j]?) (fun k=>N-k) (by decide +kernel) (Start.mk z [] [] ⟨by lia,fun j hj=>by omega⟩ (by cbv;(repeat' apply And.intro)<;>first|exact True.intro|exact WkR.refl _|rfl|lia)) ?_)
 intro k g
 cbv
 have g1:k≤d.length:=g.1
 have g2:=g.2
 clear g
 by_cases hk:k<d.length
 ·obtain⟨x,hx⟩:∃ x,d[k]?=some x:=⟨d[k],by simp [hk]⟩
  obtain⟨y,hy⟩:∃ y,e[k]?=some y:=⟨e[k]'(by lia),by simp⟩
  have hxd:=hdd x (List.mem_of_getElem? hx)
  have hne:x≠y→O.o sameNs d e=false:=fun h=>by simp only [O.h];exact sameNs_at (k:=k) (by rw[hx,hy];simpa using h)
  have hst:x=y→∀ (j:Nat),j<k+1→d[j]?=e[j]?:=fun h j hj=>by
   by_cases ej:j=k
   ·subst ej;rw[hx,hy,h]
   ·exact g2 j (by omega)
  have hso:O.o sameN1 x y=true ↔ x=y:=by rw[O.h];exact sameN1_iff
  clear g2 hdd
  (repeat' first|(refine Na ?_ fun _ _=>?_;(focus lia);cbv)|(refine Ex.known O (Ndoc.enc O) rfl hx ?_ ?_;(focus lia);cbv)|(refine Ex.known O (Ndoc.enc O) rfl hy ?_ ?_;(focus lia);cbv)|(refine CallThen.bool (C.fn (ssame1_fn O x y hxd)) (fun _=>?_) (fun _=>?_)<;>cbv)|(refine Back.up [] [] ?_ ?_ fun _ _=>?_;rotate_left 2;cbv;refine And.intro ?_ ?_)|(refine Nl fun _ _ hq=>?_;(try simp only [lenS] at hq);cbv)|(refine Nm fun _ _=>?_;cbv)|(refine Br.t ?_ ?_;(focus first|assumption|lia);cbv)|(refine Br.f ?_ ?_;(focus first|assumption|lia);cbv)|(refine Br.mk (fun _=>?_) (fun _=>?_)<;>cbv)|(refine Need.mk ?_ ?_;rotate_left;cbv)|(refine R0 ?_;cbv))
  all_goals(repeat' apply And.intro)
  all_goals try first
   | exact True.intro
   | exact WkR.refl _
   | (clear hx hy hne hst hso;lia)
  all_goals first
   | (refine hne fun h=>?_;rename_i hh;have hh:O.o sameN1 x y=false:=hh;rw[hso.2 h] at hh;cases hh;done)
   | (refine hst (hso.1 ?_);assumption)
   | trace_state
 ·(repeat' first|(refine Na ?_ fun _ _=>?_;(focus lia);cbv)|(refine Nl fun _ _ hq=>?_;(try simp only [lenS] at hq);cbv)|(refine Nm fun _ _=>?_;cbv)|(refine Br.t ?_ ?_;(focus first|assumption|lia);cbv)|(refine Br.f ?_ ?_;(focus first|assumption|lia);cbv)|(refine Br.mk (fun _=>?_) (fun _=>?_)<;>cbv)|(refine Need.mk ?_ ?_;rotate_left;cbv)|(refine R0 ?_;cbv))
  all_goals(repeat' apply And.intro)
  all_goals try first
   | exact True.intro
   | lia
  all_goals
   simp only [O.h]
   exact sameNs_all (by clear g2;lia) fun j hj=>g2 j (by clear g2;lia)
set_option maxHeartbeats 1000000 in
theorem sansw_fn (O:Opq) (a b:Answer) (h1:a.doc.length≤9223372036854775807) (h2:a.docs.length≤9223372036854775807∧∀ c∈a.docs,c.doc.length≤9223372036854775807) (h3:a.news.length≤9223372036854775807∧∀ c∈a.news,c.doc.length≤9223372036854775807) (h4:a.keys.length≤9223372036854775807):Fn prog 68 [.agg (a.enc O),.agg (b.enc O)] [] [.bool (O.o sameAns a b)] []:=by
  have k1:=sameW_fn O a.doc b.doc h1
  have k2:=equalN_fn O a.docs b.docs h2.1 h2.2
  have k3:=equalC2_fn O a.news b.news h3.1 h3.2
  have k4:=equalP_fn O a.keys b.keys h4
  have hQ:O.o sameAns a b=true ↔ a.code=b.code∧a.has=b.has∧a.n=b.n∧a.total=b.total∧O.o sameDoc a.doc b.doc=true∧O.o sameNs a.docs b.docs=true∧O.o sameC a.news b.news=true∧O.o sameP a.keys b.keys=true:=by
    simp only [O.h,sameAns,sameDoc,sameNs,sameC,sameP,decide_eq_true_eq]
    obtain⟨c,h,d,ds,ns,n,t,ks⟩:=a
    obtain⟨c',h',d',ds',ns',n',t',ks'⟩:=b
    simp only [Answer.mk.injEq]
    constructor
    · rintro ⟨a,b,c,d,e,f,g,h⟩;exact⟨a,b,f,g,c,d,e,h⟩
    · rintro ⟨a,b,f,g,c,d,e,h⟩;exact⟨a,b,c,d,e,f,g,h⟩
  obtain⟨s1,e1⟩:∃ s,s=O.o sameDoc a.doc b.doc:=⟨_,rfl⟩
  obtain⟨s2,e2⟩:∃ s,s=O.o sameNs a.docs b.docs:=⟨_,rfl⟩
  obtain⟨s3,e3⟩:∃ s,s=O.o sameC a.news b.news:=⟨_,rfl⟩
  obtain⟨s4,e4⟩:∃ s,s=O.o sameP a.keys b.keys:=⟨_,rfl⟩
  obtain⟨Q,eQ⟩:∃ s,s=O.o sameAns a b:=⟨_,rfl⟩
  rw[← e1] at k1 hQ
  rw[← e2] at k2 hQ
  rw[← e3] at k3 hQ
  rw[← e4] at k4 hQ
  rw[← eQ] at hQ ⊢
  clear e1 e2 e3 e4 eQ h1 h2 h3 h4
  obtain⟨c,h,d,ds,ns,n,t,ks⟩:=a
  obtain⟨c',h',d',ds',ns',n',t',ks'⟩:=b
  replace hQ:Q=true ↔ c=c'∧h=h'∧n=n'∧t=t'∧s1=true∧s2=true∧s3=true∧s4=true:=hQ
  cases h<;>cases h'
  all_goals
    refine go (fn:=Proofs.Tryz.f68) (n:=61) (rv:=[ResultVar.tmp 4]) rfl (by decide) rfl (by decide +kernel) rfl rfl (by simp) fun F L C=>?_
    cbv
    (repeat' first|(refine Na ?_ fun _ _=>?_;(focus lia);cbv)|(refine CallThen.bool (C.fn (k1)) (fun _=>?_) (fun _=>?_)<;>cbv)|(refine CallThen.bool (C.fn (k2)) (fun _=>?_) (fun _=>?_)<;>cbv)|(refine CallThen.bool (C.fn (k3)) (fun _=>?_) (fun _=>?_)<;>cbv)|(refine CallThen.bool (C.fn (k4)) (fun _=>?_) (fun _=>?_)<;>cbv)|(refine Nl fun _ _ hq=>?_;(try simp only [lenS] at hq);cbv)|(refine Nm fun _ _=>?_;cbv)|(refine Br.t ?_ ?_;(focus first|assumption|lia);cbv)|(refine Br.f ?_ ?_;(focus first|assumption|lia);cbv)|(refine Br.mk (fun _=>?_) (fun _=>?_)<;>cbv)|(refine Need.mk ?_ ?_;rotate_left;cbv)|(refine R0 ?_;cbv))
    all_goals try(exfalso;clear hQ k1 k2 k3 k4;lia)
    all_goals
      refine⟨?_,trivial⟩
      clear k1 k2 k3 k4
      first
        | (refine hQ.2 ?_;simp_all;done)
        | (cases hb : Q with
           | false=>rfl
           | true=>exfalso;have:=hQ.1 hb;clear hQ;simp_all;done)
        | trace_state
open Classical in
noncomputable def smallD (l:List Ndoc):Bool:=decide (l.length≤40∧∀ (j:Nat) (n:Ndoc),l[j]?=some n→n.doc.length≤20)
theorem smallD_iff {l:List Ndoc}:smallD l=true ↔ l.length≤40∧∀ n∈l,n.doc.length≤20:=by
 simp only [smallD,decide_eq_true_eq]
 constructor
 ·rintro ⟨h,k⟩
  refine⟨h,fun n hn=>?_⟩
  obtain⟨i,hi,rfl⟩:=List.getElem_of_mem hn
  exact k i _ (List.getElem?_eq_getElem hi)
 ·rintro ⟨h,k⟩
  exact⟨h,fun j n hn=>k n (List.mem_of_getElem? hn)⟩
theorem ldocs_fn (O:Opq) (l:List Ndoc) (hl:l.length≤9223372036854775807):Fn prog 86 [.sl false 0 false 2 (O.o (Nms.enc O) l)] [] [.bool (O.o smallD l)] []:=by
 have hlen:=Nms.len O l
 have hno:¬ (l.length≤40∧∀ (j:Nat) (n:Ndoc),l[j]?=some n→n.doc.length≤20)→O.o smallD l=false:=fun h=>by
  simp only [O.h,smallD,decide_eq_false_iff_not];exact h
 have hyes:(l.length≤40∧∀ (j:Nat) (n:Ndoc),l[j]?=some n→n.doc.length≤20)→O.o smallD l=true:=fun h=>by
  simp only [O.h,smallD,decide_eq_true_eq];exact h
 obtain⟨Q,eQ⟩:∃ Q,Q=O.o smallD l:=⟨_,rfl⟩
 rw[← eQ] at hno hyes ⊢
 obtain⟨N,hN⟩:∃ N:Nat,N=l.length:=⟨_,rfl⟩
 obtain⟨z,hz⟩:∃ z:Nat,z=0:=⟨_,rfl⟩
 clear eQ
 refine go (fn:=Proofs.Tryz.f86) (n:=23) (rv:=[ResultVar.tmp 2]) rfl (by decide) rfl (by decide +kernel) rfl rfl (by simp) fun F L C=>?_
 cbv
 (repeat' first|(refine Na ?_ fun _ _=>?_;(focus lia);cbv)|(refine Nl fun _ _ hq=>?_;(try simp only [lenS] at hq);cbv)|(refine Nm fun _ _=>?_;cbv)|(refine Br.t ?_ ?_;(focus first|assumption|lia);cbv)|(refine Br.f ?_ ?_;(focus first|assumption|lia);cbv)|(refine Br.mk (fun _=>?_) (fun _=>?_)<;>cbv)|(refine Need.mk ?_ ?_;rotate_left;cbv)|(refine R0 ?_;cbv))
 refine LoopThen.mk (C.loopAt (ι:=Nat) [(2,20)] (fun i=>[(2,.bool false),(3,.int .i64 i)]) (fun _=>[])
  (fun i=>(i≤N∧i≤40)∧∀ (j:Nat) (n:Ndoc),j<i→l[j]?=some n→n.doc.length≤20) (fun i=>N-i) (by decide +kernel) (Start.mk z [] [] ⟨by lia,fun j n hj=>by omega⟩ (by cbv;(repeat' apply And.intro)<;>first|exact True.intro|exact WkR.refl _|rfl|lia)) ?_)
 intro i g
 cbv
 have g1:i≤N∧i≤40:=g.1
 have g2:=g.2
 clear g
 by_cases hi:i<l.length
 ·obtain⟨x,hx⟩:∃ x,l[i]?=some x:=⟨l[i],by simp [hi]⟩
  have hno1:20<x.doc.length→Q=false:=fun h=>hno fun k=>by have:=k.2 i x hx;omega
  have hno2:40<l.length→Q=false:=fun h=>hno fun k=>by have:=k.1;omega
  have hst:x.doc.length≤20→∀ (j:Nat) (n:Ndoc),j<i+1→l[j]?=some n→n.doc.length≤20:=fun h j n hj hn=>by
   by_cases e:j=i
   ·subst e;rw[hx] at hn;cases hn;exact h
   ·exact g2 j n (by omega) hn
  have hdl:(O.o Doc.enc x.doc).length=x.doc.length:=by rw[O.h,Doc.enc_len]
  clear hno hyes g2
  obtain⟨xk,xd⟩:=x
  replace hno1:20<xd.length→Q=false:=hno1
  replace hst:xd.length≤20→∀ (j:Nat) (n:Ndoc),j<i+1→l[j]?=some n→n.doc.length≤20:=hst
  replace hdl:(O.o Doc.enc xd).length=xd.length:=hdl
  (repeat' first|(refine Na ?_ fun _ _=>?_;(focus lia);cbv)|(refine Ex.known O (Ndoc.enc O) rfl hx ?_ ?_;(focus lia);cbv)|(refine Back.up [] [] ?_ ?_ fun _ _=>?_;rotate_left 2;cbv;refine And.intro ?_ ?_)|(refine Nl fun _ _ hq=>?_;(try simp only [lenS] at hq);cbv)|(refine Nm fun _ _=>?_;cbv)|(refine Br.t ?_ ?_;(focus first|assumption|lia);cbv)|(refine Br.f ?_ ?_;(focus first|assumption|lia);cbv)|(refine Br.mk (fun _=>?_) (fun _=>?_)<;>cbv)|(refine Need.mk ?_ ?_;rotate_left;cbv)|(refine R0 ?_;cbv))
  all_goals(repeat' apply And.intro)
  all_goals try first
   | exact True.intro
   | exact WkR.refl _
   | (clear hx hno1 hno2 hst;lia)
   | exact hno1 (by clear hx hno1 hno2 hst;lia)
   | exact hno2 (by clear hx hno1 hno2 hst;lia)
   | exact hst (by clear hx hno1 hno2 hst;lia)
  all_goals trace_state
 ·have hy:l.length≤40→Q=true:=fun h=>hyes ⟨h,fun j n hn=>g2 j n (by have:=(List.getElem?_eq_some_iff.1 hn).1;omega) hn⟩
  have hn:¬ l.length≤40→Q=false:=fun h=>hno fun k=>h k.1
  clear hno hyes g2
  (repeat' first|(refine Na ?_ fun _ _=>?_;(focus lia);cbv)|(refine Nl fun _ _ hq=>?_;(try simp only [lenS] at hq);cbv)|(refine Nm fun _ _=>?_;cbv)|(refine Br.t ?_ ?_;(focus first|assumption|lia);cbv)|(refine Br.f ?_ ?_;(focus first|assumption|lia);cbv)|(refine Br.mk (fun _=>?_) (fun _=>?_)<;>cbv)|(refine Need.mk ?_ ?_;rotate_left;cbv)|(refine R0 ?_;cbv))
  all_goals first
   | (exfalso;clear hy hn;lia)
   | exact⟨hy (by clear hy hn;lia),trivial⟩
   | exact⟨(hy (by clear hy hn;lia)).symm,trivial⟩
   | exact⟨hn (by clear hy hn;lia),trivial⟩
   | trace_state
def lightP (o:Opn):Prop:=(∀ (j:Nat) (x:Opn),o.list[j]?=some x→x.doc.length≤20∧x.want.length≤20∧x.list.length≤5)∧o.doc.length≤20∧o.want.length≤20∧o.list.length≤6∧o.docs.length≤30∧o.news.length≤20
open Classical in
noncomputable def lightO (o:Opn):Bool:=decide (lightP o)
theorem lightO_iff {o:Opn}:lightO o=true ↔ lightP o:=by simp only [lightO,decide_eq_true_eq]
set_option maxHeartbeats 1000000 in
theorem llight_fn (O:Opq) (o:Opn):Fn prog 27 [.agg (o.en O)] [] [.bool (O.o lightO o)] []:=by
 have hno:¬ lightP o→O.o lightO o=false:=fun h=>by
  simp only [O.h,lightO,decide_eq_false_iff_not];exact h
 have hyes:lightP o→O.o lightO o=true:=fun h=>by
  simp only [O.h];exact lightO_iff.2 h
 obtain⟨Q,eQ⟩:∃ Q,Q=O.o lightO o:=⟨_,rfl⟩
 rw[← eQ] at hno hyes ⊢
 clear eQ
 obtain⟨kind,key,to,doc,want,has,n,most,ops,docs,news⟩:=o
 replace hno:¬ ((∀ (j:Nat) (x:Opn),ops[j]?=some x→x.doc.length≤20∧x.want.length≤20∧x.list.length≤5)∧doc.length≤20∧want.length≤20∧ops.length≤6∧docs.length≤30∧news.length≤20)→Q=false:=hno
 replace hyes:((∀ (j:Nat) (x:Opn),ops[j]?=some x→x.doc.length≤20∧x.want.length≤20∧x.list.length≤5)∧doc.length≤20∧want.length≤20∧ops.length≤6∧docs.length≤30∧news.length≤20)→Q=true:=hyes
 have hlen:=Ops.len O ops
 have hl2:(O.o Doc.enc doc).length=doc.length:=by rw[O.h,Doc.enc_len]
 have hl3:(O.o Doc.enc want).length=want.length:=by rw[O.h,Doc.enc_len]
 have hl4:=Nms.len O docs
 have hl5:=Chs.len O news
 obtain⟨N,hN⟩:∃ N:Nat,N=ops.length:=⟨_,rfl⟩
 obtain⟨z,hz⟩:∃ z:Nat,z=0:=⟨_,rfl⟩
 refine go (fn:=Proofs.Tryz.f27) (n:=70) (rv:=[ResultVar.tmp 2]) rfl (by decide) rfl (by decide +kernel) rfl rfl (by simp) fun F L C=>?_
 cbv
 (repeat' first|(refine Na ?_ fun _ _=>?_;(focus lia);cbv)|(refine Nl fun _ _ hq=>?_;(try simp only [lenS] at hq);cbv)|(refine Nm fun _ _=>?_;cbv)|(refine Br.t ?_ ?_;(focus first|assumption|lia);cbv)|(refine Br.f ?_ ?_;(focus first|assumption|lia);cbv)|(refine Br.mk (fun _=>?_) (fun _=>?_)<;>cbv)|(refine Need.mk ?_ ?_;rotate_left;cbv)|(refine R0 ?_;cbv))
 refine LoopThen.mk (C.loopAt (ι:=Nat) [(2,42)] (fun i=>[(2,.bool false),(3,.int .i64 i)]) (fun _=>[(192,.box [.int .i64 kind,.str key,.str to,.sl false 0 false 6 (O.o Doc.enc doc),.sl false 0 false 6 (O.o Doc.enc want),.bool has,.int .i64 n,.int .i64 most,.sl false 0 false 11 (O.o (Ops.enc O) ops),.sl false 0 false 2 (O.o (Nms.enc O) docs),.sl false 0 false 4 (O.o (Chs.enc O) news)])])
  (fun i=>(i≤N∧i≤6)∧∀ (j:Nat) (x:Opn),j<i→ops[j]?=some x→x.doc.length≤20∧x.want.length≤20∧x.list.length≤5) (fun i=>N-i) (by decide +kernel) (Start.mk z [] [] ⟨by omega,fun j n hj=>by omega⟩ ?_) ?_)
 ·cbv
  (repeat' apply And.intro)<;>first|exact True.intro|exact WkR.refl _|rfl|lia|trace_state
 intro i g
 cbv
 have g1:i≤N∧i≤6:=g.1
 have g2:=g.2
 clear g
 by_cases hi:i<ops.length
 ·obtain⟨x,hx⟩:∃ x,ops[i]?=some x:=⟨ops[i],by simp [hi]⟩
  have hno1:¬ (x.doc.length≤20∧x.want.length≤20∧x.list.length≤5)→Q=false:=fun h=>hno fun k=>h (k.1 i x hx)
  have hno2:6<ops.length→Q=false:=fun h=>hno fun k=>by have:=k.2.2.2.1;omega
  have hst:(x.doc.length≤20∧x.want.length≤20∧x.list.length≤5)→∀ (j:Nat) (y:Opn),j<i+1→ops[j]?=some y→y.doc.length≤20∧y.want.length≤20∧y.list.length≤5:=fun h j n hj hn=>by
   by_cases e:j=i
   ·subst e;rw[hx] at hn;cases hn;exact h
   ·exact g2 j n (by omega) hn
  have hx1:(O.o Doc.enc x.doc).length=x.doc.length:=by rw[O.h,Doc.enc_len]
  have hx2:(O.o Doc.enc x.want).length=x.want.length:=by rw[O.h,Doc.enc_len]
  have hx3:=Ops.len O x.list
  clear hno hyes g2
  obtain⟨xkind,xkey,xto,xdoc,xwant,xhas,xn,xmost,xlist,xdocs,xnews⟩:=x
  replace hno1:¬ (xdoc.length≤20∧xwant.length≤20∧xlist.length≤5)→Q=false:=hno1
  replace hst:(xdoc.length≤20∧xwant.length≤20∧xlist.length≤5)→∀ (j:Nat) (y:Opn),j<i+1→ops[j]?=some y→y.doc.length≤20∧y.want.length≤20∧y.list.length≤5:=hst
  replace hx1:(O.o Doc.enc xdoc).length=xdoc.length:=hx1
  replace hx2:(O.o Doc.enc xwant).length=xwant.length:=hx2
  replace hx3:(O.o (Ops.enc O) xlist).length=xlist.length:=hx3
  (repeat' first|(refine Na ?_ fun _ _=>?_;(focus lia);cbv)|(refine Ex.opn O hx ?_ ?_;(focus lia);cbv)|(refine Back.up [] [] ?_ ?_ fun _ _=>?_;rotate_left 2;cbv;refine And.intro ?_ ?_)|(refine Nl fun _ _ hq=>?_;(try simp only [lenS] at hq);cbv)|(refine Nm fun _ _=>?_;cbv)|(refine Br.t ?_ ?_;(focus first|assumption|lia);cbv)|(refine Br.f ?_ ?_;(focus first|assumption|lia);cbv)|(refine Br.mk (fun _=>?_) (fun _=>?_)<;>cbv)|(refine Need.mk ?_ ?_;rotate_left;cbv)|(refine R0 ?_;cbv))
  all_goals(repeat' apply And.intro)
  all_goals try first
   | exact True.intro
   | exact WkR.refl _
   | (clear hx hno1 hno2 hst;lia)
   | exact hno1 (by clear hx hno1 hno2 hst;lia)
   | exact hno2 (by clear hx hno1 hno2 hst;lia)
   | exact hst (by clear hx hno1 hno2 hst;lia)
  all_goals trace_state
 ·have hall:i≤6→∀ (j:Nat) (x:Opn),ops[j]?=some x→x.doc.length≤20∧x.want.length≤20∧x.list.length≤5:=fun _ j x h=>g2 j x (by have:=(List.getElem?_eq_some_iff.1 h).1;omega) h
  have hy:(doc.length≤20∧want.length≤20∧ops.length≤6∧docs.length≤30∧news.length≤20)→Q=true:=fun h=>hyes ⟨hall g1.2,h⟩
  have hn:¬ (doc.length≤20∧want.length≤20∧ops.length≤6∧docs.length≤30∧news.length≤20)→Q=false:=fun h=>hno fun k=>h k.2
  clear hno hyes g2 hall
  (repeat' first|(refine Na ?_ fun _ _=>?_;(focus lia);cbv)|(refine Nl fun _ _ hq=>?_;(try simp only [lenS] at hq);cbv)|(refine Nm fun _ _=>?_;cbv)|(refine Br.t ?_ ?_;(focus first|assumption|lia);cbv)|(refine Br.f ?_ ?_;(focus first|assumption|lia);cbv)|(refine Br.mk (fun _=>?_) (fun _=>?_)<;>cbv)|(refine Need.mk ?_ ?_;rotate_left;cbv)|(refine R0 ?_;cbv))
  all_goals first
   | (exfalso;clear hy hn;lia)
   | exact⟨hy (by clear hy hn;lia),trivial⟩
   | exact⟨(hy (by clear hy hn;lia)).symm,trivial⟩
   | exact⟨hn (by clear hy hn;lia),trivial⟩
   | trace_state
end Go.Sym
