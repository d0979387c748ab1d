/- The law ConfTwice (walk). -/
import Derived.Test.YtbneclkckmdkgaaGreatDoorK31
import Derived.Test.YtbneclkckmdkgaaGreatDoorK24
set_option linter.all false
set_option linter.unusedVariables false
set_option linter.unusedSimpArgs false
namespace Go.Sym
open Go Go.Proofs.Tryz
set_option maxRecDepth 100000
theorem applyC_dfn {c:Cnf} {k:CmdK} {n:Nat} (hm:mayC c) (hc:∀ x∈c.chains,x.dfn.size≤n) (hk:k.dfn.size≤n):∀ x∈(applyC c k).1.chains,x.dfn.size≤n:=by
 by_cases h:(applyC c k).2=0
 ·rcases applyC_step hm h with ⟨_,e⟩ | ⟨_,d,st,_,_,e⟩
  ·rw[e];exact hc
  ·rw[e]
   show ∀ x∈d.chains,_
   cases st with
   | @turn i x h0 h1 h2 h3 =>
    intro y hy
    rcases List.mem_or_eq_of_mem_set hy with hy|rfl
    ·exact hc y hy
    ·obtain⟨z,m,-,_,_,e⟩:=turnC_mid h3
     rw[e]
     have hx:=hc x (List.mem_of_getElem? h2)
     cases m<;>exact hx
   | index h0 h1 h2 h3 h4 h5 =>
    intro y hy
    rcases List.mem_append.1 hy with hy|hy
    ·exact hc y hy
    ·simp at hy;subst hy;exact hk
   | drop h0 h1 h2=>intro y hy;exact hc y (List.mem_of_mem_eraseIdx hy)
 ·rw[applyC_err hm h];exact hc
theorem may_small {c:Cnf} (h:mayC c):c.chains.length≤1000000∧∀ x∈c.chains,x.mem.length≤1000000:=⟨by have:=h.2.2.1;omega,fun x hx=>by have:=(h.2.2.2.1 x hx).2.2.1.2.1;omega⟩
theorem confTwice_fn (O:Opq) (c:Cnf) (k:CmdK):Fn prog 4 [.agg (c.enc O),.agg (k.enc O)] [] [.bool true] []:=by
 have kw:=awake19_fn O
 obtain⟨rev,ever,chains⟩:=c
 obtain⟨L,hL⟩:∃ L:Bool,L=true ↔ lightC chains:=by
  classical exact⟨decide (lightC chains),by simp⟩
 have kl:=light_fn O rev ever chains hL
 have hn:=NumsE.len O k.nodes
 by_cases hb:L=false∨20<k.nodes.length∨600<k.dfn.size
 ·obtain⟨Rc,hRc⟩:∃ R,R=O.o (Chns.enc O) chains:=⟨_,rfl⟩
  rw[← hRc] at kl
  have e0:Cnf.enc O ⟨rev,ever,chains⟩=[.int .i64 rev,.int .i64 ever,.sl false 0 false 5 Rc]:=by rw[hRc];rfl
  rw[e0]
  clear hL hRc e0
  obtain⟨k1,k2,k3,k4,k5,k6⟩:=k
  have hn:(O.o NumsE k6).length=k6.length:=hn
  have hb:L=false∨20<k6.length∨600<k5.size:=hb
  cases L
  ·clear hb
   refine go (fn:=Proofs.Tryz.f4) (n:=77) (rv:=[ResultVar.tmp 4]) rfl (by decide) rfl (by decide +kernel) rfl rfl (by simp) fun F L C=>?_
   cbv
   (repeat' first|(refine Na ?_ fun _ _=>?_;(focus lia);cbv)|(refine CallThen.mk _ _ (C.fn (kw)) ?_;cbv)|(refine CallThen.mk _ _ (C.fn (kl)) ?_;cbv)|(fail)|(refine Nl fun _ _ hq=>?_;(try simp only [lenS] at hq);cbv)|(refine Nm fun _ _=>?_;cbv)|(refine Br.t ?_ ?_;(focus first|assumption|lia);cbv)|(refine Br.f ?_ ?_;(focus first|assumption|lia);cbv)|(refine Br.mk (fun _=>?_) (fun _=>?_)<;>cbv)|(refine Need.mk ?_ ?_;rotate_left;cbv)|(refine R0 ?_;cbv))
   all_goals first
    | exact⟨rfl,trivial⟩
    | (exfalso;clear kw kl;lia)
    | (clear kw kl;lia)
    | trace_state
  ·have hb:20<k6.length∨600<k5.size:=by simpa using hb
   refine go (fn:=Proofs.Tryz.f4) (n:=77) (rv:=[ResultVar.tmp 4]) rfl (by decide) rfl (by decide +kernel) rfl rfl (by simp) fun F L C=>?_
   cbv
   (repeat' first|(refine Na ?_ fun _ _=>?_;(focus lia);cbv)|(refine CallThen.mk _ _ (C.fn (kw)) ?_;cbv)|(refine CallThen.mk _ _ (C.fn (kl)) ?_;cbv)|(fail)|(refine Nl fun _ _ hq=>?_;(try simp only [lenS] at hq);cbv)|(refine Nm fun _ _=>?_;cbv)|(refine Br.t ?_ ?_;(focus first|assumption|lia);cbv)|(refine Br.f ?_ ?_;(focus first|assumption|lia);cbv)|(refine Br.mk (fun _=>?_) (fun _=>?_)<;>cbv)|(refine Need.mk ?_ ?_;rotate_left;cbv)|(refine R0 ?_;cbv))
   all_goals first
    | exact⟨rfl,trivial⟩
    | (exfalso;clear kw kl;lia)
    | (clear kw kl;lia)
    | trace_state
 have hb:=not_or.1 hb
 have hb2:=not_or.1 hb.2
 have hLt:L=true:=by simpa using hb.1
 have hl:=hL.1 hLt
 rw[hLt] at kl
 have s1:chains.length≤1000000:=by have:=hl.1;omega
 have s2:∀ x∈chains,x.mem.length≤1000000∧x.dfn.size≤1000000:=fun x hx=>by have:=hl.2 x hx;omega
 have km:=rmay_fn O rev ever chains s1 s2
 rw[O.h mayD] at km
 by_cases hm:mayC ⟨rev,ever,chains⟩
 ·rw[mayD_iff.2 hm] at km
  have a1:=apply_fn O ⟨rev,ever,chains⟩ k s1 s2 (by omega) (by omega)
  have hM:=applyC_may (k:=k) hm
  have t1:=may_small hM
  have t2:=applyC_dfn (k:=k) (n:=1000) hm (fun x hx=>by have:=(hl.2 x hx).2;omega) (by omega)
  have a2:=apply_fn O (applyC ⟨rev,ever,chains⟩ k).1 k t1.1 (fun x hx=>⟨t1.2 x hx,by have:=t2 x hx;omega⟩) (by omega) (by omega)
  have hr:0≤rev∧rev≤2147483647:=hm.1
  by_cases hE:(applyC ⟨rev,ever,chains⟩ k).2≠0∨k.kind=6
  ·clear a2 t1 t2 hM
   obtain⟨D,hD⟩:∃ D,D=(applyC ⟨rev,ever,chains⟩ k).1:=⟨_,rfl⟩
   obtain⟨E,hEE⟩:∃ E,E=(applyC ⟨rev,ever,chains⟩ k).2:=⟨_,rfl⟩
   rw[← hD,← hEE] at a1
   rw[← hEE] at hE
   clear hD hEE
   obtain⟨d1,d2,d3⟩:=D
   obtain⟨R1,hR1⟩:∃ R,R=O.o (Chns.enc O) d3:=⟨_,rfl⟩
   have e1:Cnf.enc O ⟨d1,d2,d3⟩=[.int .i64 d1,.int .i64 d2,.sl false 0 false 5 R1]:=by rw[hR1];rfl
   rw[e1] at a1
   obtain⟨Rc,hRc⟩:∃ R,R=O.o (Chns.enc O) chains:=⟨_,rfl⟩
   have e0:Cnf.enc O ⟨rev,ever,chains⟩=[.int .i64 rev,.int .i64 ever,.sl false 0 false 5 Rc]:=by rw[hRc];rfl
   rw[← hRc] at kl km
   rw[e0] at a1 ⊢
   clear hL hRc e0 hR1 e1 hl s1 s2 hm hb
   obtain⟨k1,k2,k3,k4,k5,k6⟩:=k
   have hn:(O.o NumsE k6).length=k6.length:=hn
   have hb2:¬ 20<k6.length∧¬ 600<k5.size:=hb2
   have hE:E≠0∨k1=6:=hE
   refine go (fn:=Proofs.Tryz.f4) (n:=77) (rv:=[ResultVar.tmp 4]) rfl (by decide) rfl (by decide +kernel) rfl rfl (by simp) fun F L C=>?_
   cbv
   (repeat' first|(refine Na ?_ fun _ _=>?_;(focus lia);cbv)|(refine CallThen.mk _ _ (C.fn (kw)) ?_;cbv)|(refine CallThen.mk _ _ (C.fn (kl)) ?_;cbv)|(refine CallThen.mk _ _ (C.fn (km)) ?_;cbv)|(refine CallThen.mk _ _ (C.fn (a1)) ?_;cbv)|(refine Nl fun _ _ hq=>?_;(try simp only [lenS] at hq);cbv)|(refine Nm fun _ _=>?_;cbv)|(refine Br.t ?_ ?_;(focus first|assumption|lia);cbv)|(refine Br.f ?_ ?_;(focus first|assumption|lia);cbv)|(refine Br.mk (fun _=>?_) (fun _=>?_)<;>cbv)|(refine Need.mk ?_ ?_;rotate_left;cbv)|(refine R0 ?_;cbv))
   all_goals first
    | exact⟨rfl,trivial⟩
    | (exfalso;clear kw kl km a1;lia)
    | (clear kw kl km a1;lia)
    | trace_state
  ·have hE:=not_or.1 hE
   have hE0:(applyC ⟨rev,ever,chains⟩ k).2=0:=Classical.not_not.1 hE.1
   obtain⟨w1,w2,w3⟩:=applyC_twice hm hE0 hE.2
   rw[w1,w2] at a2
   rw[hE0] at a1
   have hW:wantC ⟨rev,ever,chains⟩ k=if k.kind=5 then 4 else if k.kind=4 then(if ever=0 then 1 else 11) else 10:=rfl
   obtain⟨W,hWW⟩:∃ W,W=wantC ⟨rev,ever,chains⟩ k:=⟨_,rfl⟩
   rw[← hWW] at a2 hW
   obtain⟨D,hD⟩:∃ D,D=(applyC ⟨rev,ever,chains⟩ k).1:=⟨_,rfl⟩
   rw[← hD] at a1 a2 t1 w3
   clear hD hWW w1 w2 hM t2
   obtain⟨d1,d2,d3⟩:=D
   have ks:=rsame_fn O d1 d2 d1 d2 d3 d3 t1.1 t1.1 t1.2 t1.2 (Q:=true) (by simp)
   have w3:d1=rev+1:=w3
   obtain⟨R1,hR1⟩:∃ R,R=O.o (Chns.enc O) d3:=⟨_,rfl⟩
   have e1:Cnf.enc O ⟨d1,d2,d3⟩=[.int .i64 d1,.int .i64 d2,.sl false 0 false 5 R1]:=by rw[hR1];rfl
   rw[e1] at a1 a2
   rw[← hR1] at ks
   obtain⟨Rc,hRc⟩:∃ R,R=O.o (Chns.enc O) chains:=⟨_,rfl⟩
   have e0:Cnf.enc O ⟨rev,ever,chains⟩=[.int .i64 rev,.int .i64 ever,.sl false 0 false 5 Rc]:=by rw[hRc];rfl
   rw[← hRc] at kl km
   rw[e0] at a1 ⊢
   have hE2:¬ k.kind=6:=hE.2
   clear hL hRc e0 hR1 e1 hl s1 s2 hm hb hE hE0 t1
   obtain⟨k1,k2,k3,k4,k5,k6⟩:=k
   have hn:(O.o NumsE k6).length=k6.length:=hn
   have hb2:¬ 20<k6.length∧¬ 600<k5.size:=hb2
   have hE2:¬ k1=6:=hE2
   have hW:W=if k1=5 then 4 else if k1=4 then(if ever=0 then 1 else 11) else 10:=hW
   have hW5:k1=5→W=4:=fun h=>by rw[hW,if_pos h]
   have hW4:k1=4→ever=0→W=1:=fun h g=>by rw[hW,if_neg (by omega),if_pos h,if_pos g]
   have hW3:k1=4→¬ ever=0→W=11:=fun h g=>by rw[hW,if_neg (by omega),if_pos h,if_neg g]
   have hW2:¬ k1=5→¬ k1=4→W=10:=fun h g=>by rw[hW,if_neg h,if_neg g]
   clear hW
   refine go (fn:=Proofs.Tryz.f4) (n:=77) (rv:=[ResultVar.tmp 4]) rfl (by decide) rfl (by decide +kernel) rfl rfl (by simp) fun F L C=>?_
   cbv
   (repeat' first|(refine Na ?_ fun _ _=>?_;(focus lia);cbv)|(refine CallThen.mk _ _ (C.fn (kw)) ?_;cbv)|(refine CallThen.mk _ _ (C.fn (kl)) ?_;cbv)|(refine CallThen.mk _ _ (C.fn (km)) ?_;cbv)|(refine CallThen.mk _ _ (C.fn (a1)) ?_;cbv)|(refine CallThen.mk _ _ (C.fn (a2)) ?_;cbv)|(refine CallThen.mk _ _ (C.fn (ks)) ?_;cbv)|(refine Nl fun _ _ hq=>?_;(try simp only [lenS] at hq);cbv)|(refine Nm fun _ _=>?_;cbv)|(refine Br.t ?_ ?_;(focus first|assumption|lia);cbv)|(refine Br.f ?_ ?_;(focus first|assumption|lia);cbv)|(refine Br.mk (fun _=>?_) (fun _=>?_)<;>cbv)|(refine Need.mk ?_ ?_;rotate_left;cbv)|(refine R0 ?_;cbv))
   all_goals first
    | exact⟨rfl,trivial⟩
    | (exfalso;clear kw kl km a1 a2 ks;lia)
    | (clear kw kl km a1 a2 ks;lia)
    | trace_state
 ·have hmf:mayD ⟨rev,ever,chains⟩=false:=by cases h:mayD ⟨rev,ever,chains⟩;rfl;exact absurd (mayD_iff.1 h) hm
  rw[hmf] at km
  obtain⟨Rc,hRc⟩:∃ R,R=O.o (Chns.enc O) chains:=⟨_,rfl⟩
  have e0:Cnf.enc O ⟨rev,ever,chains⟩=[.int .i64 rev,.int .i64 ever,.sl false 0 false 5 Rc]:=by rw[hRc];rfl
  rw[← hRc] at kl km
  rw[e0]
  clear hL hRc e0 hl s1 s2 hm hb
  obtain⟨k1,k2,k3,k4,k5,k6⟩:=k
  have hn:(O.o NumsE k6).length=k6.length:=hn
  have hb2:¬ 20<k6.length∧¬ 600<k5.size:=hb2
  refine go (fn:=Proofs.Tryz.f4) (n:=77) (rv:=[ResultVar.tmp 4]) rfl (by decide) rfl (by decide +kernel) rfl rfl (by simp) fun F L C=>?_
  cbv
  (repeat' first|(refine Na ?_ fun _ _=>?_;(focus lia);cbv)|(refine CallThen.mk _ _ (C.fn (kw)) ?_;cbv)|(refine CallThen.mk _ _ (C.fn (kl)) ?_;cbv)|(refine CallThen.mk _ _ (C.fn (km)) ?_;cbv)|(refine Nl fun _ _ hq=>?_;(try simp only [lenS] at hq);cbv)|(refine Nm fun _ _=>?_;cbv)|(refine Br.t ?_ ?_;(focus first|assumption|lia);cbv)|(refine Br.f ?_ ?_;(focus first|assumption|lia);cbv)|(refine Br.mk (fun _=>?_) (fun _=>?_)<;>cbv)|(refine Need.mk ?_ ?_;rotate_left;cbv)|(refine R0 ?_;cbv))
  all_goals first
   | exact⟨rfl,trivial⟩
   | (exfalso;clear kw kl km;lia)
   | (clear kw kl km;lia)
   | trace_state
open Go Go.Proofs Go.Proofs.Tryz
theorem confTwice_law {n0:Nat} {x0:List PV} {n1:Nat} {x1:List PV} (s0:shape prog n0 25 x0) (s1:shape prog n1 28 x1):Fn prog 4 [.agg x0,.agg x1] [] [.bool true] []:=by
 obtain⟨c,wc,_⟩:=shape_cnf s0
 obtain⟨k,wk,_⟩:=shape_cmdk s1
 have h:=confTwice_fn Opq.id c k
 exact Fn.wkA h (.cons (.agg' ⟨wc.len,fun j x y p q=>.wk (wc.at' j x y p q)⟩) (.cons (.agg' ⟨wk.len,fun j x y p q=>.wk (wk.at' j x y p q)⟩) .nil))
end Go.Sym
