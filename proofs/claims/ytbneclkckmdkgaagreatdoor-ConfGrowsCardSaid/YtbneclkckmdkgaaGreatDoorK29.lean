/- Configurations: one of its own memory; a new chain (conf.index). -/
import Derived.Test.YtbneclkckmdkgaaGreatDoorK28
set_option linter.all false
set_option linter.unusedVariables false
set_option linter.unusedSimpArgs false
namespace Go.Sym
open Go Go.Proofs.Tryz
set_option maxRecDepth 100000
theorem ownR_fn (O:Opq) (rev ever:Int) (chains:List Chn) (c1:chains.length≤1000000) (c2:∀ x∈chains,x.mem.length≤1000000) :
  Fn prog 13 [.agg [.int .i64 rev,.int .i64 ever,.sl false 0 false 5 (O.o (Chns.enc O) chains)]] [] [.agg [.int .i64 rev,.int .i64 ever,.ref 0]] [.arr 0 none 5 (O.o (Chns.enc O) chains)]:=by
 have hlen:=Chns.len O chains
 have hcl:=cloneCh_fn O chains (by omega)
 obtain⟨N,hN⟩:∃ N:Nat,N=chains.length:=⟨_,rfl⟩
 obtain⟨z,hz⟩:∃ z:Nat,z=0:=⟨_,rfl⟩
 refine go (fn:=Proofs.Tryz.f13) (n:=26) (rv:=[ResultVar.cell 2 25]) rfl (by decide) rfl (by decide +kernel) rfl rfl (by simp) fun F L C=>?_
 cbv
 (repeat' first|(refine Na ?_ fun _ _=>?_;(focus lia);cbv)|(refine CallThen.mk _ _ (C.fn (hcl)) ?_;cbv)|(refine Nl fun _ _ hq=>?_;(try simp only [lenS] at hq);cbv)|(refine Nm fun _ _=>?_;cbv)|(refine Br.t ?_ ?_;(focus first|assumption|lia);cbv)|(refine Br.f ?_ ?_;(focus first|assumption|lia);cbv)|(refine Br.mk (fun _=>?_) (fun _=>?_)<;>cbv)|(refine Need.mk ?_ ?_;rotate_left;cbv)|(refine R0 ?_;cbv))
 refine LoopThen.mk (C.loopAt (ι:=Nat) [(3,4),(12,25)] (fun k=>[(12,.int .i64 k),(4,.top)]) (fun _=>[(192,.box [.int .i64 rev,.int .i64 ever,.ref 576]),(256,.box [.int .i64 0,.int .i64 0,.nils]),(576,.arr 0 none 5 (O.o (Chns.enc O) chains))])
  (fun k=>k≤N) (fun k=>N-k) (by decide +kernel) (Start.mk z [] [] (show z≤N by omega) ?_) ?_)
 ·cbv
  (repeat' apply And.intro)<;>first|exact True.intro|exact WkR.refl _|rfl|(clear hcl c2;lia)|trace_state
 intro k g
 cbv
 have g1:k≤N:=g
 clear g hcl
 by_cases hk:k<chains.length
 ·obtain⟨x,hx⟩:∃ x,chains[k]?=some x:=⟨chains[k],by simp [hk]⟩
  have hse:=chns_set O hx
  have ki:=cloneI_fn O x.mem (by have:=c2 x (List.mem_of_getElem? hx);omega)
  clear c2
  obtain⟨id,dfn,ep,mem,jo⟩:=x
  (repeat' first|(refine Na ?_ fun _ _=>?_;(focus lia);cbv)|(refine Ex.chn O hx ?_ ?_;(focus lia);cbv)|(refine CallThen.mk _ _ (C.fn (ki)) ?_;cbv)|(refine Back.up [] [] ?_ ?_ fun _ _=>?_;rotate_left 2;cbv;refine And.intro ?_ ?_)|(refine Nl fun _ _ hq=>?_;(try simp only [lenS] at hq);cbv)|(refine Nm fun _ _=>?_;cbv)|(refine Br.t ?_ ?_;(focus first|assumption|lia);cbv)|(refine Br.f ?_ ?_;(focus first|assumption|lia);cbv)|(refine Br.mk (fun _=>?_) (fun _=>?_)<;>cbv)|(refine Need.mk ?_ ?_;rotate_left;cbv)|(refine R0 ?_;cbv))
  all_goals try first
   | (clear ki hse hx;lia)
   | (refine⟨.refl _,.refl _,?_,trivial⟩;clear ki hse hx;lia)
  all_goals first
   | (rename_i i1 ei1 i2 ei2 R eR n1 en1 n2 en2;exact WkR.of_eq (by rw[eR,show i2=k from ei2];exact hse.symm))
   | trace_state
 ·(repeat' first|(refine Na ?_ fun _ _=>?_;(focus lia);cbv)|(refine RetThen.mk [(0,.loc 576)] [] ?_;cbv)|(refine Nl fun _ _ hq=>?_;(try simp only [lenS] at hq);cbv)|(refine Nm fun _ _=>?_;cbv)|(refine Br.t ?_ ?_;(focus first|assumption|lia);cbv)|(refine Br.f ?_ ?_;(focus first|assumption|lia);cbv)|(refine Br.mk (fun _=>?_) (fun _=>?_)<;>cbv)|(refine Need.mk ?_ ?_;rotate_left;cbv)|(refine R0 ?_;cbv))
  all_goals try(exfalso;lia)
  all_goals(repeat' apply And.intro)
  all_goals first
   | exact True.intro
   | exact WkR.refl _
   | rfl
   | (refine WkR.of_eq ?_;symm;assumption)
   | (refine WkR.of_eq ?_;subst_vars;rfl)
   | trace_state
noncomputable def indexC (ever:Int) (chains:List Chn) (k:CmdK):Int :=
 if ¬ (nodesD k.nodes=true∧defD (ever+1) k.dfn=true) then 1
 else if (chains.any (dfP k.dfn))=true then 11
 else if chains.length=4∨ever=2147483647 then 2 else 0
abbrev fIndex:Nat:=16
set_option maxHeartbeats 4000000 in
theorem confIndex_fn (O:Opq) (rev ever:Int) (chains:List Chn) (k:CmdK) (hl:chains.length≤1000000) (hn:k.nodes.length≤1000000) (hd:k.dfn.size≤1000000000) (he:0≤ever∧ever≤2147483647) :
  (indexC ever chains k=0→Fn prog 16 [.agg [.int .i64 rev,.int .i64 ever,.ref 0],.agg (k.enc O)] [.arr 0 none 5 (O.o (Chns.enc O) chains)] [.agg [.int .i64 rev,.int .i64 (ever+1),.sl false 0 false 5 (O.o (Chns.enc O) (chains++[⟨ever+1,k.dfn,1,k.nodes,0⟩]))],.int .i64 0] [.dead]) ∧
  (indexC ever chains k≠0→Fn prog 16 [.agg [.int .i64 rev,.int .i64 ever,.ref 0],.agg (k.enc O)] [.arr 0 none 5 (O.o (Chns.enc O) chains)] [.agg [.int .i64 rev,.int .i64 ever,.sl false 0 false 5 (O.o (Chns.enc O) chains)],.int .i64 (indexC ever chains k)] [.dead]):=by
 have hlen:=Chns.len O chains
 have k1:=cnodes_fn O k.nodes hn
 have k2:=creads_fn O (ever+1) k.dfn hd
 have k3:=containsDf_fn0 O chains k hl
 have k4:=cloneI_fn O k.nodes (by omega)
 rw[O.h nodesD] at k1
 rw[O.h defD] at k2
 rw[O.h (fun l:List Chn=>l.any (dfP k.dfn))] at k3
 change Fn prog _ _ _ [.bool (chains.any (dfP k.dfn))] _ at k3
 have hC:indexC ever chains k=if ¬ (nodesD k.nodes=true∧defD (ever+1) k.dfn=true) then 1 else if (chains.any (dfP k.dfn))=true then 11 else if chains.length=4∨ever=2147483647 then 2 else 0:=rfl
 have happ:O.o (Chns.enc O) (chains++[⟨ever+1,k.dfn,1,k.nodes,0⟩])=O.o (Chns.enc O) chains++[[.int .i64 (ever+1),.str k.dfn,.int .i64 1,.sl false 0 false 1 (O.o NumsE k.nodes),.int .i64 0]]:=by
  have q:∀ l,O.o (Chns.enc O) l=l.map (Chn.enc O):=fun l=>by rw[O.h];rfl
  rw[q,q,List.map_append];rfl
 obtain⟨N,hN⟩:∃ N:Nat,N=chains.length:=⟨_,rfl⟩
 obtain⟨C,eC⟩:∃ C,C=indexC ever chains k:=⟨_,rfl⟩
 obtain⟨B1,e1⟩:∃ B,B=nodesD k.nodes:=⟨_,rfl⟩
 obtain⟨B2,e2⟩:∃ B,B=defD (ever+1) k.dfn:=⟨_,rfl⟩
 obtain⟨B3,e3⟩:∃ B,B=chains.any (dfP k.dfn):=⟨_,rfl⟩
 obtain⟨ev1,hev1⟩:∃ e:Int,e=ever+1:=⟨_,rfl⟩
 have he2:ev1=IntKind.i64.wrap (ever+1):=by rw[wrap64 (by omega)];exact hev1
 rw[← eC,← e1,← e2,← e3,← hN] at hC
 rw[← eC]
 rw[← e1] at k1
 rw[← hev1] at happ k2 e2 ⊢
 rw[← e2] at k2
 rw[← e3] at k3
 rw[← hN] at hlen
 clear eC e1 e2 e3
 obtain⟨k1',k2',k3',k4',dfn,nodes⟩:=k
 by_cases b1:¬ (B1=true∧B2=true)
 ·have hC:C=1:=by rw[hC,if_pos b1]
  refine⟨fun h=>absurd h (by omega),fun _=>?_⟩
  rw[hC]
  cases B1
  ·clear b1 hC
   refine go (fn:=Proofs.Tryz.f16) (n:=54) (rv:=[ResultVar.cell 4 25,ResultVar.tmp 5]) rfl (by decide) rfl (by decide +kernel) rfl rfl (by simp) fun F L C=>?_
   cbv
   (repeat' first|(refine Named.at' ev1 he2 ?_;cbv)|(refine Na ?_ fun _ _=>?_;(focus lia);cbv)|(refine CallThen.mk _ _ (C.fn (k1)) ?_;cbv)|(refine CallThen.mk _ _ (C.fn (Fn.wkA (k3) ?_)) ?_;(focus((repeat' apply WkAL.cons)<;>first|exact WkAL.nil|exact WkA.refl _|exact WkA.lend rfl|exact WkA.bor rfl (WkR.refl _)|exact WkA.wk (Wk.nil _ _)|exact WkA.wk (Wk.sl' rfl rfl (WkR.refl _))|(refine WkA.agg' ?_;((repeat' apply WkAL.cons)<;>first|exact WkAL.nil|exact WkA.refl _|exact WkA.lend rfl|exact WkA.bor rfl (WkR.refl _)|exact WkA.wk (Wk.nil _ _)|exact WkA.wk (Wk.sl' rfl rfl (WkR.refl _))|(refine WkA.agg' ?_;((repeat' apply WkAL.cons)<;>first|exact WkAL.nil|exact WkA.refl _|exact WkA.lend rfl|exact WkA.bor rfl (WkR.refl _)|exact WkA.wk (Wk.nil _ _)|exact WkA.wk (Wk.sl' rfl rfl (WkR.refl _))))))));cbv)|(refine CallThen.mk _ _ (C.fn (k2)) ?_;cbv)|(refine CallThen.mk _ _ (C.fn (k4)) ?_;cbv)|(refine RetThen.mk [] [0] ?_;cbv)|(refine Nl fun _ _ hq=>?_;(try simp only [lenS] at hq);cbv)|(refine Nm fun _ _=>?_;cbv)|(refine Br.t ?_ ?_;(focus first|assumption|lia);cbv)|(refine Br.f ?_ ?_;(focus first|assumption|lia);cbv)|(refine Br.mk (fun _=>?_) (fun _=>?_)<;>cbv)|(refine Need.mk ?_ ?_;rotate_left;cbv)|(refine R0 ?_;cbv))
   all_goals first
    | exact⟨.refl _,trivial⟩
    | exact⟨rfl,.refl _,trivial⟩
    | exact⟨.refl _,rfl,trivial⟩
    | (rename_i R eR;exact⟨.of_eq eR.symm,trivial⟩)
    | (clear k1 k2 k3 k4;show((O.o (Chns.enc O) chains).length+1) * 64≤2 ^ 44∧(O.o (Chns.enc O) chains).length+1≤2 ^ 60;lia)
    | (exfalso;clear k1 k2 k3 k4;lia)
    | (clear k1 k2 k3 k4;lia)
    | trace_state
  ·cases B2
   ·clear b1 hC
    refine go (fn:=Proofs.Tryz.f16) (n:=54) (rv:=[ResultVar.cell 4 25,ResultVar.tmp 5]) rfl (by decide) rfl (by decide +kernel) rfl rfl (by simp) fun F L C=>?_
    cbv
    (repeat' first|(refine Named.at' ev1 he2 ?_;cbv)|(refine Na ?_ fun _ _=>?_;(focus lia);cbv)|(refine CallThen.mk _ _ (C.fn (k1)) ?_;cbv)|(refine CallThen.mk _ _ (C.fn (Fn.wkA (k3) ?_)) ?_;(focus((repeat' apply WkAL.cons)<;>first|exact WkAL.nil|exact WkA.refl _|exact WkA.lend rfl|exact WkA.bor rfl (WkR.refl _)|exact WkA.wk (Wk.nil _ _)|exact WkA.wk (Wk.sl' rfl rfl (WkR.refl _))|(refine WkA.agg' ?_;((repeat' apply WkAL.cons)<;>first|exact WkAL.nil|exact WkA.refl _|exact WkA.lend rfl|exact WkA.bor rfl (WkR.refl _)|exact WkA.wk (Wk.nil _ _)|exact WkA.wk (Wk.sl' rfl rfl (WkR.refl _))|(refine WkA.agg' ?_;((repeat' apply WkAL.cons)<;>first|exact WkAL.nil|exact WkA.refl _|exact WkA.lend rfl|exact WkA.bor rfl (WkR.refl _)|exact WkA.wk (Wk.nil _ _)|exact WkA.wk (Wk.sl' rfl rfl (WkR.refl _))))))));cbv)|(refine CallThen.mk _ _ (C.fn (k2)) ?_;cbv)|(refine CallThen.mk _ _ (C.fn (k4)) ?_;cbv)|(refine RetThen.mk [] [0] ?_;cbv)|(refine Nl fun _ _ hq=>?_;(try simp only [lenS] at hq);cbv)|(refine Nm fun _ _=>?_;cbv)|(refine Br.t ?_ ?_;(focus first|assumption|lia);cbv)|(refine Br.f ?_ ?_;(focus first|assumption|lia);cbv)|(refine Br.mk (fun _=>?_) (fun _=>?_)<;>cbv)|(refine Need.mk ?_ ?_;rotate_left;cbv)|(refine R0 ?_;cbv))
    all_goals first
     | exact⟨.refl _,trivial⟩
     | exact⟨rfl,.refl _,trivial⟩
     | exact⟨.refl _,rfl,trivial⟩
     | (rename_i R eR;exact⟨.of_eq eR.symm,trivial⟩)
     | (clear k1 k2 k3 k4;show((O.o (Chns.enc O) chains).length+1) * 64≤2 ^ 44∧(O.o (Chns.enc O) chains).length+1≤2 ^ 60;lia)
     | (exfalso;clear k1 k2 k3 k4;lia)
     | (clear k1 k2 k3 k4;lia)
     | trace_state
   ·exact absurd ⟨rfl,rfl⟩ b1
 rw[if_neg b1] at hC
 obtain⟨rfl,rfl⟩:=Classical.not_not.1 b1
 clear b1
 cases B3
 ·by_cases b2:N=4∨ever=2147483647
  ·have hC:C=2:=by rw[hC,if_neg (by simp),if_pos b2]
   refine⟨fun h=>absurd h (by omega),fun _=>?_⟩
   rw[hC]
   clear hC
   refine go (fn:=Proofs.Tryz.f16) (n:=54) (rv:=[ResultVar.cell 4 25,ResultVar.tmp 5]) rfl (by decide) rfl (by decide +kernel) rfl rfl (by simp) fun F L C=>?_
   cbv
   (repeat' first|(refine Named.at' ev1 he2 ?_;cbv)|(refine Na ?_ fun _ _=>?_;(focus lia);cbv)|(refine CallThen.mk _ _ (C.fn (k1)) ?_;cbv)|(refine CallThen.mk _ _ (C.fn (Fn.wkA (k3) ?_)) ?_;(focus((repeat' apply WkAL.cons)<;>first|exact WkAL.nil|exact WkA.refl _|exact WkA.lend rfl|exact WkA.bor rfl (WkR.refl _)|exact WkA.wk (Wk.nil _ _)|exact WkA.wk (Wk.sl' rfl rfl (WkR.refl _))|(refine WkA.agg' ?_;((repeat' apply WkAL.cons)<;>first|exact WkAL.nil|exact WkA.refl _|exact WkA.lend rfl|exact WkA.bor rfl (WkR.refl _)|exact WkA.wk (Wk.nil _ _)|exact WkA.wk (Wk.sl' rfl rfl (WkR.refl _))|(refine WkA.agg' ?_;((repeat' apply WkAL.cons)<;>first|exact WkAL.nil|exact WkA.refl _|exact WkA.lend rfl|exact WkA.bor rfl (WkR.refl _)|exact WkA.wk (Wk.nil _ _)|exact WkA.wk (Wk.sl' rfl rfl (WkR.refl _))))))));cbv)|(refine CallThen.mk _ _ (C.fn (k2)) ?_;cbv)|(refine CallThen.mk _ _ (C.fn (k4)) ?_;cbv)|(refine RetThen.mk [] [0] ?_;cbv)|(refine Nl fun _ _ hq=>?_;(try simp only [lenS] at hq);cbv)|(refine Nm fun _ _=>?_;cbv)|(refine Br.t ?_ ?_;(focus first|assumption|lia);cbv)|(refine Br.f ?_ ?_;(focus first|assumption|lia);cbv)|(refine Br.mk (fun _=>?_) (fun _=>?_)<;>cbv)|(refine Need.mk ?_ ?_;rotate_left;cbv)|(refine R0 ?_;cbv))
   all_goals first
    | exact⟨.refl _,trivial⟩
    | exact⟨rfl,.refl _,trivial⟩
    | exact⟨.refl _,rfl,trivial⟩
    | (rename_i R eR;exact⟨.of_eq eR.symm,trivial⟩)
    | (clear k1 k2 k3 k4;show((O.o (Chns.enc O) chains).length+1) * 64≤2 ^ 44∧(O.o (Chns.enc O) chains).length+1≤2 ^ 60;lia)
    | (exfalso;clear k1 k2 k3 k4;lia)
    | (clear k1 k2 k3 k4;lia)
    | trace_state
  ·have hC:C=0:=by rw[hC,if_neg (by simp),if_neg b2]
   refine⟨fun _=>?_,fun h=>absurd hC h⟩
   obtain⟨L2,hL2⟩:∃ L,L=chains++[(⟨ev1,dfn,1,nodes,0⟩:Chn)]:=⟨_,rfl⟩
   have happ:O.o (Chns.enc O) (chains++[⟨ev1,dfn,1,nodes,0⟩])=O.o (Chns.enc O) chains++[[.int .i64 ev1,.str dfn,.int .i64 1,.sl false 0 false 1 (O.o NumsE nodes),.int .i64 0]]:=happ
   show Fn prog fIndex _ _ [.agg [.int .i64 rev,.int .i64 ev1,.sl false 0 false 5 (O.o (Chns.enc O) (chains++[⟨ev1,dfn,1,nodes,0⟩]))],.int .i64 0] [.dead]
   rw[← hL2] at happ ⊢
   clear hC hL2
   refine go (fn:=Proofs.Tryz.f16) (n:=54) (rv:=[ResultVar.cell 4 25,ResultVar.tmp 5]) rfl (by decide) rfl (by decide +kernel) rfl rfl (by simp) fun F L C=>?_
   cbv
   (repeat' first|(refine Named.at' (O.o (Chns.enc O) L2) happ ?_;cbv)|(refine Named.at' ev1 he2 ?_;cbv)|(refine Na ?_ fun _ _=>?_;(focus lia);cbv)|(refine CallThen.mk _ _ (C.fn (k1)) ?_;cbv)|(refine CallThen.mk _ _ (C.fn (Fn.wkA (k3) ?_)) ?_;(focus((repeat' apply WkAL.cons)<;>first|exact WkAL.nil|exact WkA.refl _|exact WkA.lend rfl|exact WkA.bor rfl (WkR.refl _)|exact WkA.wk (Wk.nil _ _)|exact WkA.wk (Wk.sl' rfl rfl (WkR.refl _))|(refine WkA.agg' ?_;((repeat' apply WkAL.cons)<;>first|exact WkAL.nil|exact WkA.refl _|exact WkA.lend rfl|exact WkA.bor rfl (WkR.refl _)|exact WkA.wk (Wk.nil _ _)|exact WkA.wk (Wk.sl' rfl rfl (WkR.refl _))|(refine WkA.agg' ?_;((repeat' apply WkAL.cons)<;>first|exact WkAL.nil|exact WkA.refl _|exact WkA.lend rfl|exact WkA.bor rfl (WkR.refl _)|exact WkA.wk (Wk.nil _ _)|exact WkA.wk (Wk.sl' rfl rfl (WkR.refl _))))))));cbv)|(refine CallThen.mk _ _ (C.fn (k2)) ?_;cbv)|(refine CallThen.mk _ _ (C.fn (k4)) ?_;cbv)|(refine RetThen.mk [] [3520] ?_;cbv)|(refine Nl fun _ _ hq=>?_;(try simp only [lenS] at hq);cbv)|(refine Nm fun _ _=>?_;cbv)|(refine Br.t ?_ ?_;(focus first|assumption|lia);cbv)|(refine Br.f ?_ ?_;(focus first|assumption|lia);cbv)|(refine Br.mk (fun _=>?_) (fun _=>?_)<;>cbv)|(refine Need.mk ?_ ?_;rotate_left;cbv)|(refine R0 ?_;cbv))
   all_goals first
    | exact⟨.refl _,trivial⟩
    | exact⟨rfl,.refl _,trivial⟩
    | exact⟨.refl _,rfl,trivial⟩
    | (rename_i R eR;exact⟨.of_eq eR.symm,trivial⟩)
    | (clear k1 k2 k3 k4;show((O.o (Chns.enc O) chains).length+1) * 64≤2 ^ 44∧(O.o (Chns.enc O) chains).length+1≤2 ^ 60;lia)
    | (exfalso;clear k1 k2 k3 k4;lia)
    | (clear k1 k2 k3 k4;lia)
    | trace_state
 ·have hC:C=11:=by rw[hC,if_pos rfl]
  refine⟨fun h=>absurd h (by omega),fun _=>?_⟩
  rw[hC]
  clear hC
  refine go (fn:=Proofs.Tryz.f16) (n:=54) (rv:=[ResultVar.cell 4 25,ResultVar.tmp 5]) rfl (by decide) rfl (by decide +kernel) rfl rfl (by simp) fun F L C=>?_
  cbv
  (repeat' first|(refine Named.at' ev1 he2 ?_;cbv)|(refine Na ?_ fun _ _=>?_;(focus lia);cbv)|(refine CallThen.mk _ _ (C.fn (k1)) ?_;cbv)|(refine CallThen.mk _ _ (C.fn (Fn.wkA (k3) ?_)) ?_;(focus((repeat' apply WkAL.cons)<;>first|exact WkAL.nil|exact WkA.refl _|exact WkA.lend rfl|exact WkA.bor rfl (WkR.refl _)|exact WkA.wk (Wk.nil _ _)|exact WkA.wk (Wk.sl' rfl rfl (WkR.refl _))|(refine WkA.agg' ?_;((repeat' apply WkAL.cons)<;>first|exact WkAL.nil|exact WkA.refl _|exact WkA.lend rfl|exact WkA.bor rfl (WkR.refl _)|exact WkA.wk (Wk.nil _ _)|exact WkA.wk (Wk.sl' rfl rfl (WkR.refl _))|(refine WkA.agg' ?_;((repeat' apply WkAL.cons)<;>first|exact WkAL.nil|exact WkA.refl _|exact WkA.lend rfl|exact WkA.bor rfl (WkR.refl _)|exact WkA.wk (Wk.nil _ _)|exact WkA.wk (Wk.sl' rfl rfl (WkR.refl _))))))));cbv)|(refine CallThen.mk _ _ (C.fn (k2)) ?_;cbv)|(refine CallThen.mk _ _ (C.fn (k4)) ?_;cbv)|(refine RetThen.mk [] [0] ?_;cbv)|(refine Nl fun _ _ hq=>?_;(try simp only [lenS] at hq);cbv)|(refine Nm fun _ _=>?_;cbv)|(refine Br.t ?_ ?_;(focus first|assumption|lia);cbv)|(refine Br.f ?_ ?_;(focus first|assumption|lia);cbv)|(refine Br.mk (fun _=>?_) (fun _=>?_)<;>cbv)|(refine Need.mk ?_ ?_;rotate_left;cbv)|(refine R0 ?_;cbv))
  all_goals first
   | exact⟨.refl _,trivial⟩
   | exact⟨rfl,.refl _,trivial⟩
   | exact⟨.refl _,rfl,trivial⟩
   | (rename_i R eR;exact⟨.of_eq eR.symm,trivial⟩)
   | (clear k1 k2 k3 k4;show((O.o (Chns.enc O) chains).length+1) * 64≤2 ^ 44∧(O.o (Chns.enc O) chains).length+1≤2 ^ 60;lia)
   | (exfalso;clear k1 k2 k3 k4;lia)
   | (clear k1 k2 k3 k4;lia)
   | trace_state
end Go.Sym
