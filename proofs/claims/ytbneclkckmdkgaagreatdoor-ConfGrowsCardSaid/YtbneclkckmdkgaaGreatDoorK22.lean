/- Configurations of their own memory. -/
import Derived.Test.YtbneclkckmdkgaaGreatDoorK21
set_option linter.all false
set_option linter.unusedVariables false
set_option linter.unusedSimpArgs false
namespace Go.Sym
open Go Go.Proofs.Tryz
set_option maxRecDepth 100000
theorem chns_set (O:Opq) {l:List Chn} {k:Nat} {x:Chn} (hx:l[k]?=some x):(O.o (Chns.enc O) l).set k (Chn.enc O x)=O.o (Chns.enc O) l:=by
 obtain⟨hk,rfl⟩:=List.getElem?_eq_some_iff.1 hx
 simp only [O.h]
 rw[Chns.enc,← List.map_set,List.set_getElem_self]
theorem cloneCh_fn (O:Opq) (d:List Chn) (hd:d.length≤1099511627):Fn prog 28 [.sl false 0 false 5 (O.o (Chns.enc O) d)] [] [.ref 0] [.arr 0 none 5 (O.o (Chns.enc O) d)]:=by
 have hlen:(O.o (Chns.enc O) d).length=d.length:=Chns.len O d
 refine .inl (Fn.nilOr (pre:=[]) (post:=[]) (fun h0=>?_) ?_)
 ·refine goB (fn:=Proofs.Tryz.f28) (n:=7) (rv:=[ResultVar.tmp 2]) rfl (by decide) rfl (by decide +kernel) rfl rfl (by simp) fun F L C=>?_
  cbv
  (repeat' first|(refine Na ?_ fun _ _=>?_;(focus lia);cbv)|(refine RetThen.mk [(0,.nil 5)] [] ?_;cbv)|(refine Nl fun _ _ hq=>?_;(try simp only [lenS] at hq);cbv)|(refine Nm fun _ _=>?_;cbv)|(refine Br.t ?_ ?_;(focus first|assumption|lia);cbv)|(refine Br.f ?_ ?_;(focus first|assumption|lia);cbv)|(refine Br.mk (fun _=>?_) (fun _=>?_)<;>cbv)|(refine Need.mk ?_ ?_;rotate_left;cbv)|(refine R0 ?_;cbv))
  all_goals exact⟨h0,trivial⟩
 ·refine goB (fn:=Proofs.Tryz.f28) (n:=7) (rv:=[ResultVar.tmp 2]) rfl (by decide) rfl (by decide +kernel) rfl rfl (by simp) fun F L C=>?_
  cbv
  (repeat' first|(refine Na ?_ fun _ _=>?_;(focus lia);cbv)|(refine RetThen.mk [(0,.loc 576)] [] ?_;cbv)|(refine Nl fun _ _ hq=>?_;(try simp only [lenS] at hq);cbv)|(refine Nm fun _ _=>?_;cbv)|(refine Br.t ?_ ?_;(focus first|assumption|lia);cbv)|(refine Br.f ?_ ?_;(focus first|assumption|lia);cbv)|(refine Br.mk (fun _=>?_) (fun _=>?_)<;>cbv)|(refine Need.mk ?_ ?_;rotate_left;cbv)|(refine R0 ?_;cbv))
  ·rename_i r hr
   subst hr
   exact⟨WkR.of_eq rfl,trivial⟩
  ·have:([]:List (List PV)).length=0:=rfl
   lia
theorem cloneI_fn (O:Opq) (d:List Int) (hd:d.length≤1099511627):Fn prog 29 [.sl false 0 false 1 (O.o NumsE d)] [] [.sl false 0 false 1 (O.o NumsE d)] []:=by
 have hlen:(O.o NumsE d).length=d.length:=NumsE.len O d
 refine .inl (Fn.nilOr (pre:=[]) (post:=[]) (fun h0=>?_) ?_)
 ·refine goB (fn:=Proofs.Tryz.f29) (n:=7) (rv:=[ResultVar.tmp 2]) rfl (by decide) rfl (by decide +kernel) rfl rfl (by simp) fun F L C=>?_
  cbv
  (repeat' first|(refine Na ?_ fun _ _=>?_;(focus lia);cbv)|(refine R0 ?_;cbv)|(refine Nl fun _ _ hq=>?_;(try simp only [lenS] at hq);cbv)|(refine Nm fun _ _=>?_;cbv)|(refine Br.t ?_ ?_;(focus first|assumption|lia);cbv)|(refine Br.f ?_ ?_;(focus first|assumption|lia);cbv)|(refine Br.mk (fun _=>?_) (fun _=>?_)<;>cbv)|(refine Need.mk ?_ ?_;rotate_left;cbv)|(refine R0 ?_;cbv))
  all_goals exact⟨h0,trivial⟩
 ·refine goB (fn:=Proofs.Tryz.f29) (n:=7) (rv:=[ResultVar.tmp 2]) rfl (by decide) rfl (by decide +kernel) rfl rfl (by simp) fun F L C=>?_
  cbv
  (repeat' first|(refine Na ?_ fun _ _=>?_;(focus lia);cbv)|(refine RetThen.mk [] [576] ?_;cbv)|(refine Nl fun _ _ hq=>?_;(try simp only [lenS] at hq);cbv)|(refine Nm fun _ _=>?_;cbv)|(refine Br.t ?_ ?_;(focus first|assumption|lia);cbv)|(refine Br.f ?_ ?_;(focus first|assumption|lia);cbv)|(refine Br.mk (fun _=>?_) (fun _=>?_)<;>cbv)|(refine Need.mk ?_ ?_;rotate_left;cbv)|(refine R0 ?_;cbv))
  ·refine⟨WkR.of_eq ?_,trivial⟩
   clear hlen
   subst_vars
   rfl
  ·have:([]:List (List PV)).length=0:=rfl
   lia
theorem ownC_fn (O:Opq) (rev ever:Int) (chains:List Chn) (c1:chains.length≤1000000) (c2:∀ x∈chains,x.mem.length≤1000000) :
  Fn prog 13 [.agg [.int .i64 rev,.int .i64 ever,.sl false 0 false 5 (O.o (Chns.enc O) chains)]] [] [.agg [.int .i64 rev,.int .i64 ever,.sl false 0 false 5 (O.o (Chns.enc O) chains)]] []:=by
 have hlen:=Chns.len O chains
 have hcl:=cloneCh_fn O chains (by omega)
 obtain⟨N,hN⟩:∃ N:Nat,N=chains.length:=⟨_,rfl⟩
 obtain⟨z,hz⟩:∃ z:Nat,z=0:=⟨_,rfl⟩
 refine go (fn:=Proofs.Tryz.f13) (n:=26) (rv:=[ResultVar.cell 2 25]) rfl (by decide) rfl (by decide +kernel) rfl rfl (by simp) fun F L C=>?_
 cbv
 (repeat' first|(refine Na ?_ fun _ _=>?_;(focus lia);cbv)|(refine CallThen.mk _ _ (C.fn (hcl)) ?_;cbv)|(refine Nl fun _ _ hq=>?_;(try simp only [lenS] at hq);cbv)|(refine Nm fun _ _=>?_;cbv)|(refine Br.t ?_ ?_;(focus first|assumption|lia);cbv)|(refine Br.f ?_ ?_;(focus first|assumption|lia);cbv)|(refine Br.mk (fun _=>?_) (fun _=>?_)<;>cbv)|(refine Need.mk ?_ ?_;rotate_left;cbv)|(refine R0 ?_;cbv))
 refine LoopThen.mk (C.loopAt (ι:=Nat) [(3,4),(12,25)] (fun k=>[(12,.int .i64 k),(4,.top)]) (fun _=>[(192,.box [.int .i64 rev,.int .i64 ever,.ref 576]),(256,.box [.int .i64 0,.int .i64 0,.nils]),(576,.arr 0 none 5 (O.o (Chns.enc O) chains))])
  (fun k=>k≤N) (fun k=>N-k) (by decide +kernel) (Start.mk z [] [] (show z≤N by omega) ?_) ?_)
 ·cbv
  (repeat' apply And.intro)<;>first|exact True.intro|exact WkR.refl _|rfl|(clear hcl c2;lia)|trace_state
 intro k g
 cbv
 have g1:k≤N:=g
 clear g hcl
 by_cases hk:k<chains.length
 ·obtain⟨x,hx⟩:∃ x,chains[k]?=some x:=⟨chains[k],by simp [hk]⟩
  have hse:=chns_set O hx
  have ki:=cloneI_fn O x.mem (by have:=c2 x (List.mem_of_getElem? hx);omega)
  clear c2
  obtain⟨id,dfn,ep,mem,jo⟩:=x
  (repeat' first|(refine Na ?_ fun _ _=>?_;(focus lia);cbv)|(refine Ex.chn O hx ?_ ?_;(focus lia);cbv)|(refine CallThen.mk _ _ (C.fn (ki)) ?_;cbv)|(refine Back.up [] [] ?_ ?_ fun _ _=>?_;rotate_left 2;cbv;refine And.intro ?_ ?_)|(refine Nl fun _ _ hq=>?_;(try simp only [lenS] at hq);cbv)|(refine Nm fun _ _=>?_;cbv)|(refine Br.t ?_ ?_;(focus first|assumption|lia);cbv)|(refine Br.f ?_ ?_;(focus first|assumption|lia);cbv)|(refine Br.mk (fun _=>?_) (fun _=>?_)<;>cbv)|(refine Need.mk ?_ ?_;rotate_left;cbv)|(refine R0 ?_;cbv))
  all_goals try first
   | (clear ki hse hx;lia)
   | (refine⟨.refl _,.refl _,?_,trivial⟩;clear ki hse hx;lia)
  all_goals first
   | (rename_i i1 ei1 i2 ei2 R eR n1 en1 n2 en2;exact WkR.of_eq (by rw[eR,show i2=k from ei2];exact hse.symm))
   | trace_state
 ·(repeat' first|(refine Na ?_ fun _ _=>?_;(focus lia);cbv)|(refine RetThen.mk [] [576] ?_;cbv)|(refine Nl fun _ _ hq=>?_;(try simp only [lenS] at hq);cbv)|(refine Nm fun _ _=>?_;cbv)|(refine Br.t ?_ ?_;(focus first|assumption|lia);cbv)|(refine Br.f ?_ ?_;(focus first|assumption|lia);cbv)|(refine Br.mk (fun _=>?_) (fun _=>?_)<;>cbv)|(refine Need.mk ?_ ?_;rotate_left;cbv)|(refine R0 ?_;cbv))
  all_goals try(exfalso;lia)
  all_goals(repeat' apply And.intro)
  all_goals first
   | exact True.intro
   | exact WkR.refl _
   | rfl
   | (refine WkR.of_eq ?_;symm;assumption)
   | (refine WkR.of_eq ?_;subst_vars;rfl)
   | trace_state
def findG {α:Type} (p:α→Bool) (l:List α):Int:=if l.any p=true then(l.findIdx p:Nat) else -1
theorem findG_at {α:Type} {p:α→Bool} {l:List α} {k:Nat} {x:α} (hx:l[k]?=some x) (hp:p x=true) (h:∀ (j:Nat) y,j<k→l[j]?=some y→p y=false):findG p l=k:=by
 have hlt:=(List.getElem?_eq_some_iff.1 hx).1
 rw[findG,if_pos (List.any_eq_true.2 ⟨x,List.mem_of_getElem? hx,hp⟩)]
 refine congrArg _ ((List.findIdx_eq hlt).2 ⟨by rw[(List.getElem?_eq_some_iff.1 hx).2];exact hp,fun j hj=>h j _ hj (by simp)⟩)
theorem findG_no {α:Type} {p:α→Bool} {l:List α} (h:∀ (j:Nat) y,j<l.length→l[j]?=some y→p y=false):findG p l=-1:=by
 rw[findG,if_neg]
 simp only [List.any_eq_true,not_exists,not_and]
 intro x hx
 obtain⟨j,hj,rfl⟩:=List.getElem_of_mem hx
 have:=h j l[j] hj (by simp)
 simp [this]
theorem findG_ge {α:Type} (p:α→Bool) (l:List α):(0≤findG p l ↔ l.any p=true):=by
 rw[findG]
 split
 ·rename_i h;simp [h]
 ·rename_i h;simp [h]
def idP (id:Int) (x:Chn):Bool:=decide (x.id=id)
def dfP (s:ByteArray) (x:Chn):Bool:=decide (x.dfn=s)
theorem at1_fn (O:Opq) (id:Int) (x:Chn):Fn prog 31 [.agg (x.enc O),.ptr 0 0] [.box [.int .i64 id]] [.bool (O.o (idP id) x)] [.box [.int .i64 id]]:=by
 obtain⟨i,d,e,m,j⟩:=x
 have hB:O.o (idP id) ⟨i,d,e,m,j⟩=true ↔ i=id:=by rw[O.h];simp [idP]
 obtain⟨B,eB⟩:∃ B,B=O.o (idP id) ⟨i,d,e,m,j⟩:=⟨_,rfl⟩
 rw[← eB] at hB ⊢
 clear eB
 cases B
 all_goals
  refine go (fn:=Proofs.Tryz.f31) (n:=6) (rv:=[ResultVar.tmp 3]) rfl (by decide) rfl (by decide +kernel) rfl rfl (by simp) fun F L C=>?_
  cbv
  (repeat' first|(refine Na ?_ fun _ _=>?_;(focus lia);cbv)|(refine Nl fun _ _ hq=>?_;(try simp only [lenS] at hq);cbv)|(refine Nm fun _ _=>?_;cbv)|(refine Br.t ?_ ?_;(focus first|assumption|lia);cbv)|(refine Br.f ?_ ?_;(focus first|assumption|lia);cbv)|(refine Br.mk (fun _=>?_) (fun _=>?_)<;>cbv)|(refine Need.mk ?_ ?_;rotate_left;cbv)|(refine R0 ?_;cbv))
  all_goals first
   | exact⟨rfl,rfl,trivial⟩
   | (exfalso;simp only [true_iff,false_iff,Bool.false_eq_true] at hB;lia)
   | trace_state
theorem index1_fn (O:Opq) (k:CmdK) (x:Chn):Fn prog 35 [.agg (x.enc O),.ptr 0 0] [.box (k.enc O)] [.bool (O.o (dfP k.dfn) x)] [.box (k.enc O)]:=by
 obtain⟨i,d,e,m,j⟩:=x
 obtain⟨k1,k2,k3,k4,k5,k6⟩:=k
 have hB:O.o (dfP k5) ⟨i,d,e,m,j⟩=true ↔ d=k5:=by rw[O.h];simp [dfP]
 obtain⟨B,eB⟩:∃ B,B=O.o (dfP k5) ⟨i,d,e,m,j⟩:=⟨_,rfl⟩
 show Fn prog 35 [.agg _,.ptr 0 0] [.box _] [.bool (O.o (dfP k5) ⟨i,d,e,m,j⟩)] [.box _]
 rw[← eB] at hB ⊢
 clear eB
 cases B
 all_goals
  refine go (fn:=Proofs.Tryz.f35) (n:=7) (rv:=[ResultVar.tmp 3]) rfl (by decide) rfl (by decide +kernel) rfl rfl (by simp) fun F L C=>?_
  cbv
  (repeat' first|(refine Na ?_ fun _ _=>?_;(focus lia);cbv)|(refine Nl fun _ _ hq=>?_;(try simp only [lenS] at hq);cbv)|(refine Nm fun _ _=>?_;cbv)|(refine Br.t ?_ ?_;(focus first|assumption|lia);cbv)|(refine Br.f ?_ ?_;(focus first|assumption|lia);cbv)|(refine Br.mk (fun _=>?_) (fun _=>?_)<;>cbv)|(refine Need.mk ?_ ?_;rotate_left;cbv)|(refine R0 ?_;cbv))
  all_goals first
   | exact⟨rfl,rfl,trivial⟩
   | exact⟨rfl,.refl _,trivial⟩
   | exact⟨.refl _,trivial⟩
   | (exfalso;simp only [true_iff,false_iff,Bool.false_eq_true] at hB;exact hB (by assumption))
   | (exfalso;exact absurd (hB.1 rfl) (by assumption))
   | trace_state
theorem indexAt_fn0 (O:Opq) (l:List Chn) (id:Int) (hl:l.length≤1000000):Fn prog 30 [.sl true 0 false 5 (O.o (Chns.enc O) l),.fn 31 [] [.ptr 0 0]] [.box [.int .i64 id]] [.int .i64 (O.o (findG (idP id)) l)] [.box [.int .i64 id]]:=by
 have hlen:=Chns.len O l
 have hf:=fun x=>at1_fn O id x
 skip
 obtain⟨z,hz⟩:∃ z:Nat,z=0:=⟨_,rfl⟩
 obtain⟨N,hN⟩:∃ N:Nat,N=l.length:=⟨_,rfl⟩
 refine go (fn:=Proofs.Tryz.f30) (n:=17) (rv:=[ResultVar.tmp 4]) rfl (by decide) rfl (by decide +kernel) rfl rfl (by simp) fun F L C=>?_
 cbv
 (repeat' first|(refine Na ?_ fun _ _=>?_;(focus lia);cbv)|(refine Nl fun _ _ hq=>?_;(try simp only [lenS] at hq);cbv)|(refine Nm fun _ _=>?_;cbv)|(refine Br.t ?_ ?_;(focus first|assumption|lia);cbv)|(refine Br.f ?_ ?_;(focus first|assumption|lia);cbv)|(refine Br.mk (fun _=>?_) (fun _=>?_)<;>cbv)|(refine Need.mk ?_ ?_;rotate_left;cbv)|(refine R0 ?_;cbv))
 refine LoopThen.mk (C.loopAt (ι:=Nat) [(4,5),(8,18)] (fun k=>[(4,.int .i64 0),(8,.int .i64 k)]) (fun _=>[(0,.box [.int .i64 id])])
  (fun i=>i≤l.length∧∀ (j:Nat) x,j<i→l[j]?=some x→(idP id) x=false) (fun i=>N-i) (by decide +kernel) (Start.mk z [] [] ⟨by omega,fun j x hj=>by omega⟩ (by cbv;(repeat' apply And.intro)<;>first|exact True.intro|exact WkR.refl _|rfl|lia)) ?_)
 intro i g
 cbv
 have g1:i≤l.length:=g.1
 have g2:∀ (j:Nat) x,j<i→l[j]?=some x→(idP id) x=false:=g.2
 clear g
 by_cases hk:i<l.length
 ·obtain⟨x,hx⟩:∃ x,l[i]?=some x:=⟨l[i],by simp [hk]⟩
  have hc:=hf x
  have hyes:O.o (idP id) x=true→O.o (findG (idP id)) l=i:=fun e=>by rw[O.h] at e ⊢;exact findG_at hx e g2
  have hst:O.o (idP id) x=false→∀ (j:Nat) y,j<i+1→l[j]?=some y→(idP id) y=false:=fun h j y hj hy=>by
   by_cases ej:j=i
   ·subst ej;rw[hx] at hy;cases hy;rwa [O.h] at h
   ·exact g2 j y (by omega) hy
  obtain⟨Q,eQ⟩:∃ Q,Q=O.o (findG (idP id)) l:=⟨_,rfl⟩
  obtain⟨B,eB⟩:∃ B,B=O.o (idP id) x:=⟨_,rfl⟩
  rw[← eQ] at hyes ⊢
  rw[← eB] at hyes hst hc
  obtain⟨xi,xd,xe,xm,xj⟩:=x
  clear g2 eQ hf eB
  (repeat' first|(refine Na ?_ fun _ _=>?_;(focus lia);cbv)|(refine Ex.chn O hx ?_ ?_;(focus lia);cbv)|(refine CallThen.bool (C.fn (hc)) (fun _=>?_) (fun _=>?_)<;>cbv)|(refine Back.up [] [] ?_ ?_ fun _ _=>?_;rotate_left 2;cbv;refine And.intro ?_ ?_)|(refine Nl fun _ _ hq=>?_;(try simp only [lenS] at hq);cbv)|(refine Nm fun _ _=>?_;cbv)|(refine Br.t ?_ ?_;(focus first|assumption|lia);cbv)|(refine Br.f ?_ ?_;(focus first|assumption|lia);cbv)|(refine Br.mk (fun _=>?_) (fun _=>?_)<;>cbv)|(refine Need.mk ?_ ?_;rotate_left;cbv)|(refine R0 ?_;cbv))
  all_goals(repeat' apply And.intro)
  all_goals try first
   | exact True.intro
   | exact WkR.refl _
   | rfl
   | (clear hx hst hyes hc;lia)
  all_goals first
   | exact hst (by assumption)
   | (rw[hyes (by assumption)];clear hx hst hyes hc;lia)
   | trace_state
 ·have hno:O.o (findG (idP id)) l=-1:=by rw[O.h];exact findG_no fun j x hj hx=>g2 j x (by omega) hx
  rw[hno]
  clear g2 hf
  (repeat' first|(refine Na ?_ fun _ _=>?_;(focus lia);cbv)|(refine Nl fun _ _ hq=>?_;(try simp only [lenS] at hq);cbv)|(refine Nm fun _ _=>?_;cbv)|(refine Br.t ?_ ?_;(focus first|assumption|lia);cbv)|(refine Br.f ?_ ?_;(focus first|assumption|lia);cbv)|(refine Br.mk (fun _=>?_) (fun _=>?_)<;>cbv)|(refine Need.mk ?_ ?_;rotate_left;cbv)|(refine R0 ?_;cbv))
  all_goals first
   | exact⟨rfl,trivial⟩
   | exact⟨rfl,rfl,trivial⟩
   | exact⟨rfl,.refl _,trivial⟩
   | exact⟨.refl _,trivial⟩
   | (exfalso;lia)
   | trace_state
theorem indexDf_fn0 (O:Opq) (l:List Chn) (k:CmdK) (hl:l.length≤1000000):Fn prog 30 [.sl true 0 false 5 (O.o (Chns.enc O) l),.fn 35 [] [.ptr 0 0]] [.box (k.enc O)] [.int .i64 (O.o (findG (dfP k.dfn)) l)] [.box (k.enc O)]:=by
 have hlen:=Chns.len O l
 have hf:=fun x=>index1_fn O k x
 obtain⟨k1,k2,k3,k4,k5,k6⟩:=k
 obtain⟨z,hz⟩:∃ z:Nat,z=0:=⟨_,rfl⟩
 obtain⟨N,hN⟩:∃ N:Nat,N=l.length:=⟨_,rfl⟩
 refine go (fn:=Proofs.Tryz.f30) (n:=17) (rv:=[ResultVar.tmp 4]) rfl (by decide) rfl (by decide +kernel) rfl rfl (by simp) fun F L C=>?_
 cbv
 (repeat' first|(refine Na ?_ fun _ _=>?_;(focus lia);cbv)|(refine Nl fun _ _ hq=>?_;(try simp only [lenS] at hq);cbv)|(refine Nm fun _ _=>?_;cbv)|(refine Br.t ?_ ?_;(focus first|assumption|lia);cbv)|(refine Br.f ?_ ?_;(focus first|assumption|lia);cbv)|(refine Br.mk (fun _=>?_) (fun _=>?_)<;>cbv)|(refine Need.mk ?_ ?_;rotate_left;cbv)|(refine R0 ?_;cbv))
 refine LoopThen.mk (C.loopAt (ι:=Nat) [(4,5),(8,18)] (fun k=>[(4,.int .i64 0),(8,.int .i64 k)]) (fun _=>[(0,.box [.int .i64 k1,.int .i64 k2,.int .i64 k3,.int .i64 k4,.str k5,.sl false 0 false 1 (O.o NumsE k6)])])
  (fun i=>i≤l.length∧∀ (j:Nat) x,j<i→l[j]?=some x→(dfP k5) x=false) (fun i=>N-i) (by decide +kernel) (Start.mk z [] [] ⟨by omega,fun j x hj=>by omega⟩ (by cbv;(repeat' apply And.intro)<;>first|exact True.intro|exact WkR.refl _|rfl|lia)) ?_)
 intro i g
 cbv
 have g1:i≤l.length:=g.1
 have g2:∀ (j:Nat) x,j<i→l[j]?=some x→(dfP k5) x=false:=g.2
 clear g
 by_cases hk:i<l.length
 ·obtain⟨x,hx⟩:∃ x,l[i]?=some x:=⟨l[i],by simp [hk]⟩
  have hc:=hf x
  have hyes:O.o (dfP k5) x=true→O.o (findG (dfP k5)) l=i:=fun e=>by rw[O.h] at e ⊢;exact findG_at hx e g2
  have hst:O.o (dfP k5) x=false→∀ (j:Nat) y,j<i+1→l[j]?=some y→(dfP k5) y=false:=fun h j y hj hy=>by
   by_cases ej:j=i
   ·subst ej;rw[hx] at hy;cases hy;rwa [O.h] at h
   ·exact g2 j y (by omega) hy
  obtain⟨Q,eQ⟩:∃ Q,Q=O.o (findG (dfP k5)) l:=⟨_,rfl⟩
  obtain⟨B,eB⟩:∃ B,B=O.o (dfP k5) x:=⟨_,rfl⟩
  rw[← eQ] at hyes ⊢
  rw[← eB] at hyes hst hc
  obtain⟨xi,xd,xe,xm,xj⟩:=x
  clear g2 eQ hf eB
  (repeat' first|(refine Na ?_ fun _ _=>?_;(focus lia);cbv)|(refine Ex.chn O hx ?_ ?_;(focus lia);cbv)|(refine CallThen.bool (C.fn (hc)) (fun _=>?_) (fun _=>?_)<;>cbv)|(refine Back.up [] [] ?_ ?_ fun _ _=>?_;rotate_left 2;cbv;refine And.intro ?_ ?_)|(refine Nl fun _ _ hq=>?_;(try simp only [lenS] at hq);cbv)|(refine Nm fun _ _=>?_;cbv)|(refine Br.t ?_ ?_;(focus first|assumption|lia);cbv)|(refine Br.f ?_ ?_;(focus first|assumption|lia);cbv)|(refine Br.mk (fun _=>?_) (fun _=>?_)<;>cbv)|(refine Need.mk ?_ ?_;rotate_left;cbv)|(refine R0 ?_;cbv))
  all_goals(repeat' apply And.intro)
  all_goals try first
   | exact True.intro
   | exact WkR.refl _
   | rfl
   | (clear hx hst hyes hc;lia)
  all_goals first
   | exact hst (by assumption)
   | (rw[hyes (by assumption)];clear hx hst hyes hc;lia)
   | trace_state
 ·have hno:O.o (findG (dfP k5)) l=-1:=by rw[O.h];exact findG_no fun j x hj hx=>g2 j x (by omega) hx
  rw[hno]
  clear g2 hf
  (repeat' first|(refine Na ?_ fun _ _=>?_;(focus lia);cbv)|(refine Nl fun _ _ hq=>?_;(try simp only [lenS] at hq);cbv)|(refine Nm fun _ _=>?_;cbv)|(refine Br.t ?_ ?_;(focus first|assumption|lia);cbv)|(refine Br.f ?_ ?_;(focus first|assumption|lia);cbv)|(refine Br.mk (fun _=>?_) (fun _=>?_)<;>cbv)|(refine Need.mk ?_ ?_;rotate_left;cbv)|(refine R0 ?_;cbv))
  all_goals first
   | exact⟨rfl,trivial⟩
   | exact⟨rfl,rfl,trivial⟩
   | exact⟨rfl,.refl _,trivial⟩
   | exact⟨.refl _,trivial⟩
   | (exfalso;lia)
   | trace_state
theorem containsDf_fn0 (O:Opq) (l:List Chn) (k:CmdK) (hl:l.length≤1000000):Fn prog 34 [.sl true 0 false 5 (O.o (Chns.enc O) l),.fn 35 [] [.ptr 0 0]] [.box (k.enc O)] [.bool (O.o (fun l=>l.any (dfP k.dfn)) l)] [.box (k.enc O)]:=by
 have h:=indexDf_fn0 O l k hl
 have hi:(0≤O.o (findG (dfP k.dfn)) l ↔ O.o (fun l:List Chn=>l.any (dfP k.dfn)) l=true):=by rw[O.h,O.h];exact findG_ge _ l
 obtain⟨Q,eQ⟩:∃ Q,Q=O.o (findG (dfP k.dfn)) l:=⟨_,rfl⟩
 rw[← eQ] at h hi
 obtain⟨B,eB⟩:∃ Q,Q=O.o (fun l:List Chn=>l.any (dfP k.dfn)) l:=⟨_,rfl⟩
 rw[← eB] at hi ⊢
 clear eQ eB
 obtain⟨k1,k2,k3,k4,k5,k6⟩:=k
 cases B
 all_goals
  refine go (fn:=Proofs.Tryz.f34) (n:=7) (rv:=[ResultVar.tmp 4]) rfl (by decide) rfl (by decide +kernel) rfl rfl (by simp) fun F L C=>?_
  cbv
  (repeat' first|(refine Na ?_ fun _ _=>?_;(focus lia);cbv)|(refine CallThen.mk _ _ (C.fn (h)) ?_;cbv)|(refine Nl fun _ _ hq=>?_;(try simp only [lenS] at hq);cbv)|(refine Nm fun _ _=>?_;cbv)|(refine Br.t ?_ ?_;(focus first|assumption|lia);cbv)|(refine Br.f ?_ ?_;(focus first|assumption|lia);cbv)|(refine Br.mk (fun _=>?_) (fun _=>?_)<;>cbv)|(refine Need.mk ?_ ?_;rotate_left;cbv)|(refine R0 ?_;cbv))
  all_goals first
   | exact⟨rfl,rfl,trivial⟩
   | exact⟨rfl,.refl _,trivial⟩
   | exact⟨.refl _,trivial⟩
   | (exfalso;simp at hi;clear h;lia)
   | trace_state
theorem indexAt_fn (O:Opq) (l:List Chn) (id:Int) (hl:l.length≤1000000):Fn prog 30 [.sl false 0 false 5 (O.o (Chns.enc O) l),.fn 31 [] [.ptr 0 0]] [.box [.int .i64 id]] [.int .i64 (O.o (findG (idP id)) l)] [.box [.int .i64 id]]:=(indexAt_fn0 O l id hl).wkA (.cons (.lend rfl) (.cons (.refl _) .nil))
theorem confAt_fn (O:Opq) (rev ever id:Int) (chains:List Chn) (hl:chains.length≤1000000):Fn prog 14 [.agg [.int .i64 rev,.int .i64 ever,.sl false 0 false 5 (O.o (Chns.enc O) chains)],.int .i64 id] [] [.int .i64 (O.o (findG (idP id)) chains)] []:=by
 have h:=indexAt_fn O chains id hl
 obtain⟨Q,eQ⟩:∃ Q,Q=O.o (findG (idP id)) chains:=⟨_,rfl⟩
 rw[← eQ] at h ⊢
 refine go (fn:=Proofs.Tryz.f14) (n:=7) (rv:=[ResultVar.tmp 4]) rfl (by decide) rfl (by decide +kernel) rfl rfl (by simp) fun F L C=>?_
 cbv
 (repeat' first|(refine Na ?_ fun _ _=>?_;(focus lia);cbv)|(refine CallThen.mk _ _ (C.fn (h)) ?_;cbv)|(refine Nl fun _ _ hq=>?_;(try simp only [lenS] at hq);cbv)|(refine Nm fun _ _=>?_;cbv)|(refine Br.t ?_ ?_;(focus first|assumption|lia);cbv)|(refine Br.f ?_ ?_;(focus first|assumption|lia);cbv)|(refine Br.mk (fun _=>?_) (fun _=>?_)<;>cbv)|(refine Need.mk ?_ ?_;rotate_left;cbv)|(refine R0 ?_;cbv))
 all_goals first
  | exact⟨rfl,trivial⟩
  | trace_state
def sameI (a b:List Int):Bool:=decide (a=b)
theorem rints_fn (O:Opq) (d e:List Int) (hl:d.length≤1000000) (hl2:e.length≤1000000):Fn prog 8 [.sl false 0 false 1 (O.o NumsE d),.sl false 0 false 1 (O.o NumsE e)] [] [.bool (O.o (sameI d) e)] []:=by
 have hd:=NumsE.len O d
 have he:=NumsE.len O e
 obtain⟨Q,eQ⟩:∃ Q,Q=O.o (sameI d) e:=⟨_,rfl⟩
 have hQ:Q=true ↔ d=e:=by rw[eQ,O.h,sameI,decide_eq_true_eq]
 rw[← eQ]
 clear eQ
 have hne:d≠e→Q=false:=fun h=>by
  cases Q with
  | false=>rfl
  | true=>exact absurd (hQ.1 rfl) h
 have heq:d=e→Q=true:=hQ.2
 have hlne:d.length≠e.length→Q=false:=fun h=>hne (fun k=>h (by rw[k]))
 obtain⟨z,hz⟩:∃ z:Nat,z=0:=⟨_,rfl⟩
 obtain⟨N,hN⟩:∃ N:Nat,N=d.length:=⟨_,rfl⟩
 clear hQ
 by_cases hlen:d.length=e.length
 ·clear hlne
  refine go (fn:=Proofs.Tryz.f8) (n:=24) (rv:=[ResultVar.tmp 4]) rfl (by decide) rfl (by decide +kernel) rfl rfl (by simp) fun F L C=>?_
  cbv
  (repeat' first|(refine Na ?_ fun _ _=>?_;(focus lia);cbv)|(refine Nl fun _ _ hq=>?_;(try simp only [lenS] at hq);cbv)|(refine Nm fun _ _=>?_;cbv)|(refine Br.t ?_ ?_;(focus first|assumption|lia);cbv)|(refine Br.f ?_ ?_;(focus first|assumption|lia);cbv)|(refine Br.mk (fun _=>?_) (fun _=>?_)<;>cbv)|(refine Need.mk ?_ ?_;rotate_left;cbv)|(refine R0 ?_;cbv))
  all_goals try(exfalso;clear hne heq;lia)
  refine LoopThen.mk (C.loopAt (ι:=Nat) [(4,5),(11,25)] (fun k=>[(5,.int .i64 k)]) (fun _=>[])
   (fun k=>k≤d.length∧∀ (j:Nat),j<k→d[j]?=e[j]?) (fun k=>N-k) (by decide +kernel) (Start.mk z [] [] ⟨by omega,fun j hj=>by omega⟩ (by cbv;(repeat' apply And.intro)<;>first|exact True.intro|exact WkR.refl _|rfl|lia)) ?_)
  intro k g
  cbv
  have g1:k≤d.length:=g.1
  have g2:∀ (j:Nat),j<k→d[j]?=e[j]?:=g.2
  clear g
  by_cases hk:k<d.length
  ·obtain⟨x,hx⟩:∃ x,d[k]?=some x:=⟨d[k],by simp [hk]⟩
   obtain⟨y,hy⟩:∃ y,e[k]?=some y:=⟨e[k]'(by omega),by simp⟩
   have hst:x=y→∀ (j:Nat),j<k+1→d[j]?=e[j]?:=fun h j hj=>by
    by_cases ej:j=k
    ·subst ej;rw[hx,hy,h]
    ·exact g2 j (by omega)
   have hnx:¬ x=y→Q=false:=fun h=>hne fun q=>h (by rw[q,hy] at hx;exact(Option.some.inj hx).symm)
   clear hne heq g2
   (repeat' first|(refine Na ?_ fun _ _=>?_;(focus lia);cbv)|(refine Ex.known O intW rfl hx ?_ ?_;(focus lia);cbv)|(refine Ex.known O intW rfl hy ?_ ?_;(focus lia);cbv)|(refine Back.up [] [] ?_ ?_ fun _ _=>?_;rotate_left 2;cbv;refine And.intro ?_ ?_)|(refine Nl fun _ _ hq=>?_;(try simp only [lenS] at hq);cbv)|(refine Nm fun _ _=>?_;cbv)|(refine Br.t ?_ ?_;(focus first|assumption|lia);cbv)|(refine Br.f ?_ ?_;(focus first|assumption|lia);cbv)|(refine Br.mk (fun _=>?_) (fun _=>?_)<;>cbv)|(refine Need.mk ?_ ?_;rotate_left;cbv)|(refine R0 ?_;cbv))
   all_goals(repeat' apply And.intro)
   all_goals first
    | exact True.intro
    | exact WkR.refl _
    | exact hnx (by assumption)
    | exact hst (by assumption)
    | (clear hx hy hst hnx;lia)
    | trace_state
  ·have:d=e:=List.ext_getElem? fun j=>by
    by_cases hj:j<d.length
    ·exact g2 j (by omega)
    ·rw[List.getElem?_eq_none (by omega),List.getElem?_eq_none (by omega)]
   have hq:=heq this
   clear hne heq g2 this
   (repeat' first|(refine Na ?_ fun _ _=>?_;(focus lia);cbv)|(refine Nl fun _ _ hq=>?_;(try simp only [lenS] at hq);cbv)|(refine Nm fun _ _=>?_;cbv)|(refine Br.t ?_ ?_;(focus first|assumption|lia);cbv)|(refine Br.f ?_ ?_;(focus first|assumption|lia);cbv)|(refine Br.mk (fun _=>?_) (fun _=>?_)<;>cbv)|(refine Need.mk ?_ ?_;rotate_left;cbv)|(refine R0 ?_;cbv))
   all_goals first
    | exact⟨hq,trivial⟩
    | (exfalso;lia)
    | trace_state
 ·have hq:=hlne hlen
  clear hne heq hlne
  refine go (fn:=Proofs.Tryz.f8) (n:=24) (rv:=[ResultVar.tmp 4]) rfl (by decide) rfl (by decide +kernel) rfl rfl (by simp) fun F L C=>?_
  cbv
  (repeat' first|(refine Na ?_ fun _ _=>?_;(focus lia);cbv)|(refine Nl fun _ _ hq=>?_;(try simp only [lenS] at hq);cbv)|(refine Nm fun _ _=>?_;cbv)|(refine Br.t ?_ ?_;(focus first|assumption|lia);cbv)|(refine Br.f ?_ ?_;(focus first|assumption|lia);cbv)|(refine Br.mk (fun _=>?_) (fun _=>?_)<;>cbv)|(refine Need.mk ?_ ?_;rotate_left;cbv)|(refine R0 ?_;cbv))
  all_goals first
   | exact⟨hq,trivial⟩
   | (exfalso;lia)
   | trace_state
end Go.Sym
