/- Configurations: a chain behind a command of it, its members the command's own. -/
import Derived.Test.YtbneclkckmdkgaaGreatDoorK27
set_option linter.all false
set_option linter.unusedVariables false
set_option linter.unusedSimpArgs false
namespace Go.Sym
open Go Go.Proofs.Tryz
set_option maxRecDepth 100000
set_option maxHeartbeats 4000000 in
theorem turnX_fn (O:Opq) {l:List Chn} {i:Nat} {x:Chn} {k:CmdK} (hx:l[i]?=some x) (hl:l.length≤1000000) (hm:x.mem.length≤1000000) (hep:0≤x.epoch∧x.epoch≤2147483647) (hk:k.kind=1∨k.kind=2∨k.kind=3) :
  Fn prog 15 [.er 0 i 0,.agg (k.enc O)] [.arrx 0 5 (O.o (Chns.enc O) l) i [.int .i64 x.id,.str x.dfn,.int .i64 x.epoch,.ref 1,.int .i64 x.joiner],.arr 0 none 1 (O.o NumsE x.mem)] [.int .i64 (O.o (turnC x) k).2] [.frz 0 5 (O.o (Chns.enc O) (l.set i (O.o (turnC x) k).1)),.dead]:=by
 have hlen:=Chns.len O l
 have hil:=(List.getElem?_eq_some_iff.1 hx).1
 have hput:=fun y=>chns_put O (l:=l) (i:=i) (y:=y)
 rw[O.h (turnC x)]
 obtain⟨id,dfn,ep,mem,jo⟩:=x
 obtain⟨k1,k2,k3,k4,k5,k6⟩:=k
 have hk:k1=1∨k1=2∨k1=3:=hk
 have hm:mem.length≤1000000:=hm
 have hep:0≤ep∧ep≤2147483647:=hep
 have ki:=indexI_fn0 O mem k4 hm
 have hI:=idx_cases (k:=k4) (m:=mem)
 have hmem:=NumsE.len O mem
 rw[show idxI k4 mem=O.o (idxI k4) mem by rw[O.h]] at hI
 obtain⟨I,eI⟩:∃ I,I=O.o (idxI k4) mem:=⟨_,rfl⟩
 rw[← eI] at ki hI
 clear eI
 by_cases c1:¬ k3=ep
 ·have e:turnC ⟨id,dfn,ep,mem,jo⟩ ⟨k1,k2,k3,k4,k5,k6⟩=(⟨id,dfn,ep,mem,jo⟩,10):=turnC_no (k:=⟨k1,k2,k3,k4,k5,k6⟩) (x:=⟨id,dfn,ep,mem,jo⟩) c1
  rw[e]
  show Fn prog fTurn _ _ [.int .i64 10] [.frz 0 5 (O.o (Chns.enc O) (l.set i ⟨id,dfn,ep,mem,jo⟩)),.dead]
  rw[hput]
  clear hput e hI
  refine go (fn:=Proofs.Tryz.f15) (n:=164) (rv:=[ResultVar.tmp 4]) rfl (by decide) rfl (by decide +kernel) rfl rfl (by simp) fun F L C=>?_
  cbv
  (repeat' first|(refine Na ?_ fun _ _=>?_;(focus lia);cbv)|(refine CallThen.mk _ _ (C.fn (Fn.wkA (ki) ?_)) ?_;(focus((repeat' apply WkAL.cons)<;>first|exact WkAL.nil|exact WkA.refl _|exact WkA.lend rfl|exact WkA.bor rfl (WkR.refl _)|exact WkA.wk (Wk.nil _ _)|exact WkA.wk (Wk.sl' rfl rfl (WkR.refl _))|(refine WkA.agg' ?_;((repeat' apply WkAL.cons)<;>first|exact WkAL.nil|exact WkA.refl _|exact WkA.lend rfl|exact WkA.bor rfl (WkR.refl _)|exact WkA.wk (Wk.nil _ _)|exact WkA.wk (Wk.sl' rfl rfl (WkR.refl _))|(refine WkA.agg' ?_;((repeat' apply WkAL.cons)<;>first|exact WkAL.nil|exact WkA.refl _|exact WkA.lend rfl|exact WkA.bor rfl (WkR.refl _)|exact WkA.wk (Wk.nil _ _)|exact WkA.wk (Wk.sl' rfl rfl (WkR.refl _))))))));cbv)|(refine RetThen.mk [] [0] ?_;cbv)|(refine Nl fun _ _ hq=>?_;(try simp only [lenS] at hq);cbv)|(refine Nm fun _ _=>?_;cbv)|(refine Br.t ?_ ?_;(focus first|assumption|lia);cbv)|(refine Br.f ?_ ?_;(focus first|assumption|lia);cbv)|(refine Br.mk (fun _=>?_) (fun _=>?_)<;>cbv)|(refine Need.mk ?_ ?_;rotate_left;cbv)|(refine R0 ?_;cbv))
  all_goals first
   | exact⟨.refl _,trivial⟩
   | exact⟨rfl,.refl _,trivial⟩
   | (clear ki;exact⟨rfl,.of_eq (by subst_vars;rfl),trivial⟩)
   | (clear ki;exact⟨.of_eq (by subst_vars;rfl),trivial⟩)
   | (exfalso;clear ki;lia)
   | (clear ki;lia)
   | trace_state
 have c1:k3=ep:=Classical.not_not.1 c1
 by_cases c2:k1=1∧¬ jo=0∧k4=jo
 ·have e:turnC ⟨id,dfn,ep,mem,jo⟩ ⟨k1,k2,k3,k4,k5,k6⟩=doneC ⟨id,dfn,ep,mem,0⟩:=by rw[turnC,if_neg (by simpa using c1),if_pos c2]
  rw[e]
  by_cases c9:ep=maxCount
  ·have e2:doneC ⟨id,dfn,ep,mem,0⟩=(⟨id,dfn,ep,mem,0⟩,2):=by rw[doneC,if_pos c9]
   rw[e2]
   show Fn prog fTurn _ _ [.int .i64 2] [.frz 0 5 (O.o (Chns.enc O) (l.set i ⟨id,dfn,ep,mem,0⟩)),.dead]
   rw[hput ⟨id,dfn,ep,mem,0⟩]
   unfold maxCount at c9
   clear hput hI
   refine go (fn:=Proofs.Tryz.f15) (n:=164) (rv:=[ResultVar.tmp 4]) rfl (by decide) rfl (by decide +kernel) rfl rfl (by simp) fun F L C=>?_
   cbv
   (repeat' first|(refine Na ?_ fun _ _=>?_;(focus lia);cbv)|(fail)|(refine CallThen.mk _ _ (C.fn (Fn.wkA (ki) ?_)) ?_;(focus((repeat' apply WkAL.cons)<;>first|exact WkAL.nil|exact WkA.refl _|exact WkA.lend rfl|exact WkA.bor rfl (WkR.refl _)|exact WkA.wk (Wk.nil _ _)|exact WkA.wk (Wk.sl' rfl rfl (WkR.refl _))|(refine WkA.agg' ?_;((repeat' apply WkAL.cons)<;>first|exact WkAL.nil|exact WkA.refl _|exact WkA.lend rfl|exact WkA.bor rfl (WkR.refl _)|exact WkA.wk (Wk.nil _ _)|exact WkA.wk (Wk.sl' rfl rfl (WkR.refl _))|(refine WkA.agg' ?_;((repeat' apply WkAL.cons)<;>first|exact WkAL.nil|exact WkA.refl _|exact WkA.lend rfl|exact WkA.bor rfl (WkR.refl _)|exact WkA.wk (Wk.nil _ _)|exact WkA.wk (Wk.sl' rfl rfl (WkR.refl _))))))));cbv)|(refine RetThen.mk [] [0] ?_;cbv)|(refine Nl fun _ _ hq=>?_;(try simp only [lenS] at hq);cbv)|(refine Nm fun _ _=>?_;cbv)|(refine Br.t ?_ ?_;(focus first|assumption|lia);cbv)|(refine Br.f ?_ ?_;(focus first|assumption|lia);cbv)|(refine Br.mk (fun _=>?_) (fun _=>?_)<;>cbv)|(refine Need.mk ?_ ?_;rotate_left;cbv)|(refine R0 ?_;cbv))
   all_goals first
    | exact⟨.refl _,trivial⟩
    | exact⟨rfl,.refl _,trivial⟩
    | (clear ki;exact⟨rfl,.of_eq (by subst_vars;rfl),trivial⟩)
    | (clear ki;exact⟨.of_eq (by subst_vars;rfl),trivial⟩)
    | (exfalso;clear ki;lia)
    | (clear ki;lia)
    | trace_state
  ·have e2:doneC ⟨id,dfn,ep,mem,0⟩=(⟨id,dfn,ep+1,mem,0⟩,0):=by rw[doneC,if_neg c9]
   rw[e2]
   show Fn prog fTurn _ _ [.int .i64 0] [.frz 0 5 (O.o (Chns.enc O) (l.set i ⟨id,dfn,ep+1,mem,0⟩)),.dead]
   rw[hput ⟨id,dfn,ep+1,mem,0⟩]
   unfold maxCount at c9
   obtain⟨ep1,hep1⟩:∃ e:Int,e=ep+1:=⟨_,rfl⟩
   have hep2:ep1=IntKind.i64.wrap (ep+1):=by rw[wrap64 (by omega)];exact hep1
   rw[← hep1]
   clear hput hI
   refine go (fn:=Proofs.Tryz.f15) (n:=164) (rv:=[ResultVar.tmp 4]) rfl (by decide) rfl (by decide +kernel) rfl rfl (by simp) fun F L C=>?_
   cbv
   (repeat' first|(refine Named.at' ep1 hep2 ?_;cbv)|(refine Na ?_ fun _ _=>?_;(focus lia);cbv)|(fail)|(refine CallThen.mk _ _ (C.fn (Fn.wkA (ki) ?_)) ?_;(focus((repeat' apply WkAL.cons)<;>first|exact WkAL.nil|exact WkA.refl _|exact WkA.lend rfl|exact WkA.bor rfl (WkR.refl _)|exact WkA.wk (Wk.nil _ _)|exact WkA.wk (Wk.sl' rfl rfl (WkR.refl _))|(refine WkA.agg' ?_;((repeat' apply WkAL.cons)<;>first|exact WkAL.nil|exact WkA.refl _|exact WkA.lend rfl|exact WkA.bor rfl (WkR.refl _)|exact WkA.wk (Wk.nil _ _)|exact WkA.wk (Wk.sl' rfl rfl (WkR.refl _))|(refine WkA.agg' ?_;((repeat' apply WkAL.cons)<;>first|exact WkAL.nil|exact WkA.refl _|exact WkA.lend rfl|exact WkA.bor rfl (WkR.refl _)|exact WkA.wk (Wk.nil _ _)|exact WkA.wk (Wk.sl' rfl rfl (WkR.refl _))))))));cbv)|(refine RetThen.mk [] [0] ?_;cbv)|(refine Nl fun _ _ hq=>?_;(try simp only [lenS] at hq);cbv)|(refine Nm fun _ _=>?_;cbv)|(refine Br.t ?_ ?_;(focus first|assumption|lia);cbv)|(refine Br.f ?_ ?_;(focus first|assumption|lia);cbv)|(refine Br.mk (fun _=>?_) (fun _=>?_)<;>cbv)|(refine Need.mk ?_ ?_;rotate_left;cbv)|(refine R0 ?_;cbv))
   all_goals first
    | exact⟨.refl _,trivial⟩
    | exact⟨rfl,.refl _,trivial⟩
    | (clear ki;exact⟨rfl,.of_eq (by subst_vars;rfl),trivial⟩)
    | (clear ki;exact⟨.of_eq (by subst_vars;rfl),trivial⟩)
    | (exfalso;clear ki;lia)
    | (clear ki;lia)
    | trace_state
 have n1:¬ (⟨k1,k2,k3,k4,k5,k6⟩:CmdK).epoch≠(⟨id,dfn,ep,mem,jo⟩:Chn).epoch:=by simpa using c1
 by_cases c3:k1=1∧(¬ k4∈mem∨mem.length=1)
 ·have e:turnC ⟨id,dfn,ep,mem,jo⟩ ⟨k1,k2,k3,k4,k5,k6⟩=(⟨id,dfn,ep,mem,jo⟩,1):=by rw[turnC,if_neg n1,if_neg c2,if_pos c3]
  have c3:k1=1∧(I<0∨mem.length=1):=⟨c3.1,by rcases c3.2 with h|h;(rcases hI with g|g;(exact .inl g.1);exact absurd g.2.2.1 h);exact .inr h⟩
  rw[e]
  show Fn prog fTurn _ _ [.int .i64 1] [.frz 0 5 (O.o (Chns.enc O) (l.set i ⟨id,dfn,ep,mem,jo⟩)),.dead]
  rw[hput]
  clear hput e hI
  refine go (fn:=Proofs.Tryz.f15) (n:=164) (rv:=[ResultVar.tmp 4]) rfl (by decide) rfl (by decide +kernel) rfl rfl (by simp) fun F L C=>?_
  cbv
  (repeat' first|(refine Na ?_ fun _ _=>?_;(focus lia);cbv)|(refine CallThen.mk _ _ (C.fn (Fn.wkA (ki) ?_)) ?_;(focus((repeat' apply WkAL.cons)<;>first|exact WkAL.nil|exact WkA.refl _|exact WkA.lend rfl|exact WkA.bor rfl (WkR.refl _)|exact WkA.wk (Wk.nil _ _)|exact WkA.wk (Wk.sl' rfl rfl (WkR.refl _))|(refine WkA.agg' ?_;((repeat' apply WkAL.cons)<;>first|exact WkAL.nil|exact WkA.refl _|exact WkA.lend rfl|exact WkA.bor rfl (WkR.refl _)|exact WkA.wk (Wk.nil _ _)|exact WkA.wk (Wk.sl' rfl rfl (WkR.refl _))|(refine WkA.agg' ?_;((repeat' apply WkAL.cons)<;>first|exact WkAL.nil|exact WkA.refl _|exact WkA.lend rfl|exact WkA.bor rfl (WkR.refl _)|exact WkA.wk (Wk.nil _ _)|exact WkA.wk (Wk.sl' rfl rfl (WkR.refl _))))))));cbv)|(refine RetThen.mk [] [0] ?_;cbv)|(refine Nl fun _ _ hq=>?_;(try simp only [lenS] at hq);cbv)|(refine Nm fun _ _=>?_;cbv)|(refine Br.t ?_ ?_;(focus first|assumption|lia);cbv)|(refine Br.f ?_ ?_;(focus first|assumption|lia);cbv)|(refine Br.mk (fun _=>?_) (fun _=>?_)<;>cbv)|(refine Need.mk ?_ ?_;rotate_left;cbv)|(refine R0 ?_;cbv))
  all_goals first
   | exact⟨.refl _,trivial⟩
   | exact⟨rfl,.refl _,trivial⟩
   | (clear ki;exact⟨rfl,.of_eq (by subst_vars;rfl),trivial⟩)
   | (clear ki;exact⟨.of_eq (by subst_vars;rfl),trivial⟩)
   | (exfalso;clear ki;lia)
   | (clear ki;lia)
   | trace_state
 by_cases c4:k1=1
 ·have e:turnC ⟨id,dfn,ep,mem,jo⟩ ⟨k1,k2,k3,k4,k5,k6⟩=doneC ⟨id,dfn,ep,mem.eraseIdx (mem.idxOf k4),jo⟩:=by rw[turnC,if_neg n1,if_neg c2,if_neg c3,if_pos c4]
  have d3:=not_or.1 fun q=>c3 ⟨c4,q⟩
  have hmI:k4∈mem:=Classical.not_not.1 d3.1
  have hI2:0≤I∧I<mem.length∧I.toNat=mem.idxOf k4:=by
   rcases hI with g|g
   ·exact absurd hmI g.2
   ·exact⟨g.1,g.2.1,g.2.2.2⟩
  obtain⟨i1,i2,i3⟩:=hI2
  obtain⟨J,hJ⟩:∃ J,J=I+1:=⟨_,rfl⟩
  have hJ2:J=IntKind.i64.wrap (I+1):=by rw[wrap64 (by omega)];exact hJ
  have kd:=deleteI_fn O mem I J hJ (by omega) i1 i2
  have d4:=d3.2
  rw[i3,O.h List.eraseIdx] at kd
  obtain⟨mem2,hm2⟩:∃ m,m=mem.eraseIdx (mem.idxOf k4):=⟨_,rfl⟩
  rw[← hm2] at kd e
  clear c3 d3 hmI i3 hm2
  rw[e]
  by_cases c9:ep=maxCount
  ·have e2:doneC ⟨id,dfn,ep,mem2,jo⟩=(⟨id,dfn,ep,mem2,jo⟩,2):=by rw[doneC,if_pos c9]
   rw[e2]
   show Fn prog fTurn _ _ [.int .i64 2] [.frz 0 5 (O.o (Chns.enc O) (l.set i ⟨id,dfn,ep,mem2,jo⟩)),.dead]
   rw[hput ⟨id,dfn,ep,mem2,jo⟩]
   unfold maxCount at c9
   clear hput hI
   refine go (fn:=Proofs.Tryz.f15) (n:=164) (rv:=[ResultVar.tmp 4]) rfl (by decide) rfl (by decide +kernel) rfl rfl (by simp) fun F L C=>?_
   cbv
   (repeat' first|(refine Named.at' J hJ2 ?_;cbv)|(refine Na ?_ fun _ _=>?_;(focus lia);cbv)|(refine CallThen.mk _ _ (C.fn (kd)) ?_;cbv)|(refine CallThen.mk _ _ (C.fn (Fn.wkA (ki) ?_)) ?_;(focus((repeat' apply WkAL.cons)<;>first|exact WkAL.nil|exact WkA.refl _|exact WkA.lend rfl|exact WkA.bor rfl (WkR.refl _)|exact WkA.wk (Wk.nil _ _)|exact WkA.wk (Wk.sl' rfl rfl (WkR.refl _))|(refine WkA.agg' ?_;((repeat' apply WkAL.cons)<;>first|exact WkAL.nil|exact WkA.refl _|exact WkA.lend rfl|exact WkA.bor rfl (WkR.refl _)|exact WkA.wk (Wk.nil _ _)|exact WkA.wk (Wk.sl' rfl rfl (WkR.refl _))|(refine WkA.agg' ?_;((repeat' apply WkAL.cons)<;>first|exact WkAL.nil|exact WkA.refl _|exact WkA.lend rfl|exact WkA.bor rfl (WkR.refl _)|exact WkA.wk (Wk.nil _ _)|exact WkA.wk (Wk.sl' rfl rfl (WkR.refl _))))))));cbv)|(refine RetThen.mk [] [0] ?_;cbv)|(refine Nl fun _ _ hq=>?_;(try simp only [lenS] at hq);cbv)|(refine Nm fun _ _=>?_;cbv)|(refine Br.t ?_ ?_;(focus first|assumption|lia);cbv)|(refine Br.f ?_ ?_;(focus first|assumption|lia);cbv)|(refine Br.mk (fun _=>?_) (fun _=>?_)<;>cbv)|(refine Need.mk ?_ ?_;rotate_left;cbv)|(refine R0 ?_;cbv))
   all_goals first
    | exact⟨.refl _,trivial⟩
    | exact⟨rfl,.refl _,trivial⟩
    | (clear ki;exact⟨rfl,.of_eq (by subst_vars;rfl),trivial⟩)
    | (clear ki;exact⟨.of_eq (by subst_vars;rfl),trivial⟩)
    | (exfalso;clear ki;lia)
    | (clear ki;lia)
    | trace_state
  ·have e2:doneC ⟨id,dfn,ep,mem2,jo⟩=(⟨id,dfn,ep+1,mem2,jo⟩,0):=by rw[doneC,if_neg c9]
   rw[e2]
   show Fn prog fTurn _ _ [.int .i64 0] [.frz 0 5 (O.o (Chns.enc O) (l.set i ⟨id,dfn,ep+1,mem2,jo⟩)),.dead]
   rw[hput ⟨id,dfn,ep+1,mem2,jo⟩]
   unfold maxCount at c9
   obtain⟨ep1,hep1⟩:∃ e:Int,e=ep+1:=⟨_,rfl⟩
   have hep2:ep1=IntKind.i64.wrap (ep+1):=by rw[wrap64 (by omega)];exact hep1
   rw[← hep1]
   clear hput hI
   refine go (fn:=Proofs.Tryz.f15) (n:=164) (rv:=[ResultVar.tmp 4]) rfl (by decide) rfl (by decide +kernel) rfl rfl (by simp) fun F L C=>?_
   cbv
   (repeat' first|(refine Named.at' J hJ2 ?_;cbv)|(refine Named.at' ep1 hep2 ?_;cbv)|(refine Na ?_ fun _ _=>?_;(focus lia);cbv)|(refine CallThen.mk _ _ (C.fn (kd)) ?_;cbv)|(refine CallThen.mk _ _ (C.fn (Fn.wkA (ki) ?_)) ?_;(focus((repeat' apply WkAL.cons)<;>first|exact WkAL.nil|exact WkA.refl _|exact WkA.lend rfl|exact WkA.bor rfl (WkR.refl _)|exact WkA.wk (Wk.nil _ _)|exact WkA.wk (Wk.sl' rfl rfl (WkR.refl _))|(refine WkA.agg' ?_;((repeat' apply WkAL.cons)<;>first|exact WkAL.nil|exact WkA.refl _|exact WkA.lend rfl|exact WkA.bor rfl (WkR.refl _)|exact WkA.wk (Wk.nil _ _)|exact WkA.wk (Wk.sl' rfl rfl (WkR.refl _))|(refine WkA.agg' ?_;((repeat' apply WkAL.cons)<;>first|exact WkAL.nil|exact WkA.refl _|exact WkA.lend rfl|exact WkA.bor rfl (WkR.refl _)|exact WkA.wk (Wk.nil _ _)|exact WkA.wk (Wk.sl' rfl rfl (WkR.refl _))))))));cbv)|(refine RetThen.mk [] [0] ?_;cbv)|(refine Nl fun _ _ hq=>?_;(try simp only [lenS] at hq);cbv)|(refine Nm fun _ _=>?_;cbv)|(refine Br.t ?_ ?_;(focus first|assumption|lia);cbv)|(refine Br.f ?_ ?_;(focus first|assumption|lia);cbv)|(refine Br.mk (fun _=>?_) (fun _=>?_)<;>cbv)|(refine Need.mk ?_ ?_;rotate_left;cbv)|(refine R0 ?_;cbv))
   all_goals first
    | exact⟨.refl _,trivial⟩
    | exact⟨rfl,.refl _,trivial⟩
    | (clear ki;exact⟨rfl,.of_eq (by subst_vars;rfl),trivial⟩)
    | (clear ki;exact⟨.of_eq (by subst_vars;rfl),trivial⟩)
    | (exfalso;clear ki;lia)
    | (clear ki;lia)
    | trace_state
 by_cases c5:k1=2∧(k4<1∨99<k4∨k4∈mem)
 ·have e:turnC ⟨id,dfn,ep,mem,jo⟩ ⟨k1,k2,k3,k4,k5,k6⟩=(⟨id,dfn,ep,mem,jo⟩,1):=by rw[turnC,if_neg n1,if_neg c2,if_neg c3,if_neg c4,if_pos c5]
  have c5:k1=2∧(k4<1∨99<k4∨0≤I):=⟨c5.1,by rcases c5.2 with h|h|h;(exact .inl h);(exact .inr (.inl h));(rcases hI with g|g;(exact absurd h g.2);exact .inr (.inr g.1))⟩
  clear c3
  rw[e]
  show Fn prog fTurn _ _ [.int .i64 1] [.frz 0 5 (O.o (Chns.enc O) (l.set i ⟨id,dfn,ep,mem,jo⟩)),.dead]
  rw[hput]
  clear hput e hI
  refine go (fn:=Proofs.Tryz.f15) (n:=164) (rv:=[ResultVar.tmp 4]) rfl (by decide) rfl (by decide +kernel) rfl rfl (by simp) fun F L C=>?_
  cbv
  (repeat' first|(refine Na ?_ fun _ _=>?_;(focus lia);cbv)|(refine CallThen.mk _ _ (C.fn (Fn.wkA (ki) ?_)) ?_;(focus((repeat' apply WkAL.cons)<;>first|exact WkAL.nil|exact WkA.refl _|exact WkA.lend rfl|exact WkA.bor rfl (WkR.refl _)|exact WkA.wk (Wk.nil _ _)|exact WkA.wk (Wk.sl' rfl rfl (WkR.refl _))|(refine WkA.agg' ?_;((repeat' apply WkAL.cons)<;>first|exact WkAL.nil|exact WkA.refl _|exact WkA.lend rfl|exact WkA.bor rfl (WkR.refl _)|exact WkA.wk (Wk.nil _ _)|exact WkA.wk (Wk.sl' rfl rfl (WkR.refl _))|(refine WkA.agg' ?_;((repeat' apply WkAL.cons)<;>first|exact WkAL.nil|exact WkA.refl _|exact WkA.lend rfl|exact WkA.bor rfl (WkR.refl _)|exact WkA.wk (Wk.nil _ _)|exact WkA.wk (Wk.sl' rfl rfl (WkR.refl _))))))));cbv)|(refine RetThen.mk [] [0] ?_;cbv)|(refine Nl fun _ _ hq=>?_;(try simp only [lenS] at hq);cbv)|(refine Nm fun _ _=>?_;cbv)|(refine Br.t ?_ ?_;(focus first|assumption|lia);cbv)|(refine Br.f ?_ ?_;(focus first|assumption|lia);cbv)|(refine Br.mk (fun _=>?_) (fun _=>?_)<;>cbv)|(refine Need.mk ?_ ?_;rotate_left;cbv)|(refine R0 ?_;cbv))
  all_goals first
   | exact⟨.refl _,trivial⟩
   | exact⟨rfl,.refl _,trivial⟩
   | (clear ki;exact⟨rfl,.of_eq (by subst_vars;rfl),trivial⟩)
   | (clear ki;exact⟨.of_eq (by subst_vars;rfl),trivial⟩)
   | (exfalso;clear ki;lia)
   | (clear ki;lia)
   | trace_state
 have d5:k1=2→¬ k4<1∧¬ 99<k4∧I<0:=fun h=>by
  have:=not_or.1 fun q=>c5 ⟨h,q⟩
  have h2:=not_or.1 this.2
  refine⟨this.1,h2.1,?_⟩
  rcases hI with g|g
  ·exact g.1
  ·exact absurd g.2.2.1 h2.2
 by_cases c6:k1=2∧¬ jo=0
 ·have e:turnC ⟨id,dfn,ep,mem,jo⟩ ⟨k1,k2,k3,k4,k5,k6⟩=(⟨id,dfn,ep,mem,jo⟩,11):=by rw[turnC,if_neg n1,if_neg c2,if_neg c3,if_neg c4,if_neg c5,if_pos c6]
  clear c3 c5
  rw[e]
  show Fn prog fTurn _ _ [.int .i64 11] [.frz 0 5 (O.o (Chns.enc O) (l.set i ⟨id,dfn,ep,mem,jo⟩)),.dead]
  rw[hput]
  clear hput e hI
  refine go (fn:=Proofs.Tryz.f15) (n:=164) (rv:=[ResultVar.tmp 4]) rfl (by decide) rfl (by decide +kernel) rfl rfl (by simp) fun F L C=>?_
  cbv
  (repeat' first|(refine Na ?_ fun _ _=>?_;(focus lia);cbv)|(refine CallThen.mk _ _ (C.fn (Fn.wkA (ki) ?_)) ?_;(focus((repeat' apply WkAL.cons)<;>first|exact WkAL.nil|exact WkA.refl _|exact WkA.lend rfl|exact WkA.bor rfl (WkR.refl _)|exact WkA.wk (Wk.nil _ _)|exact WkA.wk (Wk.sl' rfl rfl (WkR.refl _))|(refine WkA.agg' ?_;((repeat' apply WkAL.cons)<;>first|exact WkAL.nil|exact WkA.refl _|exact WkA.lend rfl|exact WkA.bor rfl (WkR.refl _)|exact WkA.wk (Wk.nil _ _)|exact WkA.wk (Wk.sl' rfl rfl (WkR.refl _))|(refine WkA.agg' ?_;((repeat' apply WkAL.cons)<;>first|exact WkAL.nil|exact WkA.refl _|exact WkA.lend rfl|exact WkA.bor rfl (WkR.refl _)|exact WkA.wk (Wk.nil _ _)|exact WkA.wk (Wk.sl' rfl rfl (WkR.refl _))))))));cbv)|(refine RetThen.mk [] [0] ?_;cbv)|(refine Nl fun _ _ hq=>?_;(try simp only [lenS] at hq);cbv)|(refine Nm fun _ _=>?_;cbv)|(refine Br.t ?_ ?_;(focus first|assumption|lia);cbv)|(refine Br.f ?_ ?_;(focus first|assumption|lia);cbv)|(refine Br.mk (fun _=>?_) (fun _=>?_)<;>cbv)|(refine Need.mk ?_ ?_;rotate_left;cbv)|(refine R0 ?_;cbv))
  all_goals first
   | exact⟨.refl _,trivial⟩
   | exact⟨rfl,.refl _,trivial⟩
   | (clear ki;exact⟨rfl,.of_eq (by subst_vars;rfl),trivial⟩)
   | (clear ki;exact⟨.of_eq (by subst_vars;rfl),trivial⟩)
   | (exfalso;clear ki;lia)
   | (clear ki;lia)
   | trace_state
 by_cases c7:k1=2∧mem.length=4
 ·have e:turnC ⟨id,dfn,ep,mem,jo⟩ ⟨k1,k2,k3,k4,k5,k6⟩=(⟨id,dfn,ep,mem,jo⟩,2):=by rw[turnC,if_neg n1,if_neg c2,if_neg c3,if_neg c4,if_neg c5,if_neg c6,if_pos c7]
  clear c3 c5
  rw[e]
  show Fn prog fTurn _ _ [.int .i64 2] [.frz 0 5 (O.o (Chns.enc O) (l.set i ⟨id,dfn,ep,mem,jo⟩)),.dead]
  rw[hput]
  clear hput e hI
  refine go (fn:=Proofs.Tryz.f15) (n:=164) (rv:=[ResultVar.tmp 4]) rfl (by decide) rfl (by decide +kernel) rfl rfl (by simp) fun F L C=>?_
  cbv
  (repeat' first|(refine Na ?_ fun _ _=>?_;(focus lia);cbv)|(refine CallThen.mk _ _ (C.fn (Fn.wkA (ki) ?_)) ?_;(focus((repeat' apply WkAL.cons)<;>first|exact WkAL.nil|exact WkA.refl _|exact WkA.lend rfl|exact WkA.bor rfl (WkR.refl _)|exact WkA.wk (Wk.nil _ _)|exact WkA.wk (Wk.sl' rfl rfl (WkR.refl _))|(refine WkA.agg' ?_;((repeat' apply WkAL.cons)<;>first|exact WkAL.nil|exact WkA.refl _|exact WkA.lend rfl|exact WkA.bor rfl (WkR.refl _)|exact WkA.wk (Wk.nil _ _)|exact WkA.wk (Wk.sl' rfl rfl (WkR.refl _))|(refine WkA.agg' ?_;((repeat' apply WkAL.cons)<;>first|exact WkAL.nil|exact WkA.refl _|exact WkA.lend rfl|exact WkA.bor rfl (WkR.refl _)|exact WkA.wk (Wk.nil _ _)|exact WkA.wk (Wk.sl' rfl rfl (WkR.refl _))))))));cbv)|(refine RetThen.mk [] [0] ?_;cbv)|(refine Nl fun _ _ hq=>?_;(try simp only [lenS] at hq);cbv)|(refine Nm fun _ _=>?_;cbv)|(refine Br.t ?_ ?_;(focus first|assumption|lia);cbv)|(refine Br.f ?_ ?_;(focus first|assumption|lia);cbv)|(refine Br.mk (fun _=>?_) (fun _=>?_)<;>cbv)|(refine Need.mk ?_ ?_;rotate_left;cbv)|(refine R0 ?_;cbv))
  all_goals first
   | exact⟨.refl _,trivial⟩
   | exact⟨rfl,.refl _,trivial⟩
   | (clear ki;exact⟨rfl,.of_eq (by subst_vars;rfl),trivial⟩)
   | (clear ki;exact⟨.of_eq (by subst_vars;rfl),trivial⟩)
   | (exfalso;clear ki;lia)
   | (clear ki;lia)
   | trace_state
 by_cases c8:k1=2
 ·have e:turnC ⟨id,dfn,ep,mem,jo⟩ ⟨k1,k2,k3,k4,k5,k6⟩=doneC ⟨id,dfn,ep,mem,k4⟩:=by rw[turnC,if_neg n1,if_neg c2,if_neg c3,if_neg c4,if_neg c5,if_neg c6,if_neg c7,if_pos c8]
  clear c3 c5
  rw[e]
  by_cases c9:ep=maxCount
  ·have e2:doneC ⟨id,dfn,ep,mem,k4⟩=(⟨id,dfn,ep,mem,k4⟩,2):=by rw[doneC,if_pos c9]
   rw[e2]
   show Fn prog fTurn _ _ [.int .i64 2] [.frz 0 5 (O.o (Chns.enc O) (l.set i ⟨id,dfn,ep,mem,k4⟩)),.dead]
   rw[hput ⟨id,dfn,ep,mem,k4⟩]
   unfold maxCount at c9
   clear hput hI
   refine go (fn:=Proofs.Tryz.f15) (n:=164) (rv:=[ResultVar.tmp 4]) rfl (by decide) rfl (by decide +kernel) rfl rfl (by simp) fun F L C=>?_
   cbv
   (repeat' first|(refine Na ?_ fun _ _=>?_;(focus lia);cbv)|(fail)|(refine CallThen.mk _ _ (C.fn (Fn.wkA (ki) ?_)) ?_;(focus((repeat' apply WkAL.cons)<;>first|exact WkAL.nil|exact WkA.refl _|exact WkA.lend rfl|exact WkA.bor rfl (WkR.refl _)|exact WkA.wk (Wk.nil _ _)|exact WkA.wk (Wk.sl' rfl rfl (WkR.refl _))|(refine WkA.agg' ?_;((repeat' apply WkAL.cons)<;>first|exact WkAL.nil|exact WkA.refl _|exact WkA.lend rfl|exact WkA.bor rfl (WkR.refl _)|exact WkA.wk (Wk.nil _ _)|exact WkA.wk (Wk.sl' rfl rfl (WkR.refl _))|(refine WkA.agg' ?_;((repeat' apply WkAL.cons)<;>first|exact WkAL.nil|exact WkA.refl _|exact WkA.lend rfl|exact WkA.bor rfl (WkR.refl _)|exact WkA.wk (Wk.nil _ _)|exact WkA.wk (Wk.sl' rfl rfl (WkR.refl _))))))));cbv)|(refine RetThen.mk [] [0] ?_;cbv)|(refine Nl fun _ _ hq=>?_;(try simp only [lenS] at hq);cbv)|(refine Nm fun _ _=>?_;cbv)|(refine Br.t ?_ ?_;(focus first|assumption|lia);cbv)|(refine Br.f ?_ ?_;(focus first|assumption|lia);cbv)|(refine Br.mk (fun _=>?_) (fun _=>?_)<;>cbv)|(refine Need.mk ?_ ?_;rotate_left;cbv)|(refine R0 ?_;cbv))
   all_goals first
    | exact⟨.refl _,trivial⟩
    | exact⟨rfl,.refl _,trivial⟩
    | (clear ki;exact⟨rfl,.of_eq (by subst_vars;rfl),trivial⟩)
    | (clear ki;exact⟨.of_eq (by subst_vars;rfl),trivial⟩)
    | (exfalso;clear ki;lia)
    | (clear ki;lia)
    | trace_state
  ·have e2:doneC ⟨id,dfn,ep,mem,k4⟩=(⟨id,dfn,ep+1,mem,k4⟩,0):=by rw[doneC,if_neg c9]
   rw[e2]
   show Fn prog fTurn _ _ [.int .i64 0] [.frz 0 5 (O.o (Chns.enc O) (l.set i ⟨id,dfn,ep+1,mem,k4⟩)),.dead]
   rw[hput ⟨id,dfn,ep+1,mem,k4⟩]
   unfold maxCount at c9
   obtain⟨ep1,hep1⟩:∃ e:Int,e=ep+1:=⟨_,rfl⟩
   have hep2:ep1=IntKind.i64.wrap (ep+1):=by rw[wrap64 (by omega)];exact hep1
   rw[← hep1]
   clear hput hI
   refine go (fn:=Proofs.Tryz.f15) (n:=164) (rv:=[ResultVar.tmp 4]) rfl (by decide) rfl (by decide +kernel) rfl rfl (by simp) fun F L C=>?_
   cbv
   (repeat' first|(refine Named.at' ep1 hep2 ?_;cbv)|(refine Na ?_ fun _ _=>?_;(focus lia);cbv)|(fail)|(refine CallThen.mk _ _ (C.fn (Fn.wkA (ki) ?_)) ?_;(focus((repeat' apply WkAL.cons)<;>first|exact WkAL.nil|exact WkA.refl _|exact WkA.lend rfl|exact WkA.bor rfl (WkR.refl _)|exact WkA.wk (Wk.nil _ _)|exact WkA.wk (Wk.sl' rfl rfl (WkR.refl _))|(refine WkA.agg' ?_;((repeat' apply WkAL.cons)<;>first|exact WkAL.nil|exact WkA.refl _|exact WkA.lend rfl|exact WkA.bor rfl (WkR.refl _)|exact WkA.wk (Wk.nil _ _)|exact WkA.wk (Wk.sl' rfl rfl (WkR.refl _))|(refine WkA.agg' ?_;((repeat' apply WkAL.cons)<;>first|exact WkAL.nil|exact WkA.refl _|exact WkA.lend rfl|exact WkA.bor rfl (WkR.refl _)|exact WkA.wk (Wk.nil _ _)|exact WkA.wk (Wk.sl' rfl rfl (WkR.refl _))))))));cbv)|(refine RetThen.mk [] [0] ?_;cbv)|(refine Nl fun _ _ hq=>?_;(try simp only [lenS] at hq);cbv)|(refine Nm fun _ _=>?_;cbv)|(refine Br.t ?_ ?_;(focus first|assumption|lia);cbv)|(refine Br.f ?_ ?_;(focus first|assumption|lia);cbv)|(refine Br.mk (fun _=>?_) (fun _=>?_)<;>cbv)|(refine Need.mk ?_ ?_;rotate_left;cbv)|(refine R0 ?_;cbv))
   all_goals first
    | exact⟨.refl _,trivial⟩
    | exact⟨rfl,.refl _,trivial⟩
    | (clear ki;exact⟨rfl,.of_eq (by subst_vars;rfl),trivial⟩)
    | (clear ki;exact⟨.of_eq (by subst_vars;rfl),trivial⟩)
    | (exfalso;clear ki;lia)
    | (clear ki;lia)
    | trace_state
 by_cases cj:jo=0
 ·have e:turnC ⟨id,dfn,ep,mem,jo⟩ ⟨k1,k2,k3,k4,k5,k6⟩=(⟨id,dfn,ep,mem,jo⟩,1):=by rw[turnC,if_neg n1,if_neg c2,if_neg c3,if_neg c4,if_neg c5,if_neg c6,if_neg c7,if_neg c8,if_pos cj]
  clear c3 c5
  rw[e]
  show Fn prog fTurn _ _ [.int .i64 1] [.frz 0 5 (O.o (Chns.enc O) (l.set i ⟨id,dfn,ep,mem,jo⟩)),.dead]
  rw[hput]
  clear hput e hI
  refine go (fn:=Proofs.Tryz.f15) (n:=164) (rv:=[ResultVar.tmp 4]) rfl (by decide) rfl (by decide +kernel) rfl rfl (by simp) fun F L C=>?_
  cbv
  (repeat' first|(refine Na ?_ fun _ _=>?_;(focus lia);cbv)|(refine CallThen.mk _ _ (C.fn (Fn.wkA (ki) ?_)) ?_;(focus((repeat' apply WkAL.cons)<;>first|exact WkAL.nil|exact WkA.refl _|exact WkA.lend rfl|exact WkA.bor rfl (WkR.refl _)|exact WkA.wk (Wk.nil _ _)|exact WkA.wk (Wk.sl' rfl rfl (WkR.refl _))|(refine WkA.agg' ?_;((repeat' apply WkAL.cons)<;>first|exact WkAL.nil|exact WkA.refl _|exact WkA.lend rfl|exact WkA.bor rfl (WkR.refl _)|exact WkA.wk (Wk.nil _ _)|exact WkA.wk (Wk.sl' rfl rfl (WkR.refl _))|(refine WkA.agg' ?_;((repeat' apply WkAL.cons)<;>first|exact WkAL.nil|exact WkA.refl _|exact WkA.lend rfl|exact WkA.bor rfl (WkR.refl _)|exact WkA.wk (Wk.nil _ _)|exact WkA.wk (Wk.sl' rfl rfl (WkR.refl _))))))));cbv)|(refine RetThen.mk [] [0] ?_;cbv)|(refine Nl fun _ _ hq=>?_;(try simp only [lenS] at hq);cbv)|(refine Nm fun _ _=>?_;cbv)|(refine Br.t ?_ ?_;(focus first|assumption|lia);cbv)|(refine Br.f ?_ ?_;(focus first|assumption|lia);cbv)|(refine Br.mk (fun _=>?_) (fun _=>?_)<;>cbv)|(refine Need.mk ?_ ?_;rotate_left;cbv)|(refine R0 ?_;cbv))
  all_goals first
   | exact⟨.refl _,trivial⟩
   | exact⟨rfl,.refl _,trivial⟩
   | (clear ki;exact⟨rfl,.of_eq (by subst_vars;rfl),trivial⟩)
   | (clear ki;exact⟨.of_eq (by subst_vars;rfl),trivial⟩)
   | (exfalso;clear ki;lia)
   | (clear ki;lia)
   | trace_state
 by_cases cf:mem.length=4
 ·have e:turnC ⟨id,dfn,ep,mem,jo⟩ ⟨k1,k2,k3,k4,k5,k6⟩=(⟨id,dfn,ep,mem,jo⟩,2):=by rw[turnC,if_neg n1,if_neg c2,if_neg c3,if_neg c4,if_neg c5,if_neg c6,if_neg c7,if_neg c8,if_neg cj,if_pos cf]
  clear c3 c5
  rw[e]
  show Fn prog fTurn _ _ [.int .i64 2] [.frz 0 5 (O.o (Chns.enc O) (l.set i ⟨id,dfn,ep,mem,jo⟩)),.dead]
  rw[hput]
  clear hput e hI
  refine go (fn:=Proofs.Tryz.f15) (n:=164) (rv:=[ResultVar.tmp 4]) rfl (by decide) rfl (by decide +kernel) rfl rfl (by simp) fun F L C=>?_
  cbv
  (repeat' first|(refine Na ?_ fun _ _=>?_;(focus lia);cbv)|(refine CallThen.mk _ _ (C.fn (Fn.wkA (ki) ?_)) ?_;(focus((repeat' apply WkAL.cons)<;>first|exact WkAL.nil|exact WkA.refl _|exact WkA.lend rfl|exact WkA.bor rfl (WkR.refl _)|exact WkA.wk (Wk.nil _ _)|exact WkA.wk (Wk.sl' rfl rfl (WkR.refl _))|(refine WkA.agg' ?_;((repeat' apply WkAL.cons)<;>first|exact WkAL.nil|exact WkA.refl _|exact WkA.lend rfl|exact WkA.bor rfl (WkR.refl _)|exact WkA.wk (Wk.nil _ _)|exact WkA.wk (Wk.sl' rfl rfl (WkR.refl _))|(refine WkA.agg' ?_;((repeat' apply WkAL.cons)<;>first|exact WkAL.nil|exact WkA.refl _|exact WkA.lend rfl|exact WkA.bor rfl (WkR.refl _)|exact WkA.wk (Wk.nil _ _)|exact WkA.wk (Wk.sl' rfl rfl (WkR.refl _))))))));cbv)|(refine RetThen.mk [] [0] ?_;cbv)|(refine Nl fun _ _ hq=>?_;(try simp only [lenS] at hq);cbv)|(refine Nm fun _ _=>?_;cbv)|(refine Br.t ?_ ?_;(focus first|assumption|lia);cbv)|(refine Br.f ?_ ?_;(focus first|assumption|lia);cbv)|(refine Br.mk (fun _=>?_) (fun _=>?_)<;>cbv)|(refine Need.mk ?_ ?_;rotate_left;cbv)|(refine R0 ?_;cbv))
  all_goals first
   | exact⟨.refl _,trivial⟩
   | exact⟨rfl,.refl _,trivial⟩
   | (clear ki;exact⟨rfl,.of_eq (by subst_vars;rfl),trivial⟩)
   | (clear ki;exact⟨.of_eq (by subst_vars;rfl),trivial⟩)
   | (exfalso;clear ki;lia)
   | (clear ki;lia)
   | trace_state
 have e:turnC ⟨id,dfn,ep,mem,jo⟩ ⟨k1,k2,k3,k4,k5,k6⟩=doneC ⟨id,dfn,ep,mem++[jo],0⟩:=by rw[turnC,if_neg n1,if_neg c2,if_neg c3,if_neg c4,if_neg c5,if_neg c6,if_neg c7,if_neg c8,if_neg cj,if_neg cf]
 rw[e]
 exact turnX_prom O hil hl hm hep c1 c4 c8 cj cf
end Go.Sym
