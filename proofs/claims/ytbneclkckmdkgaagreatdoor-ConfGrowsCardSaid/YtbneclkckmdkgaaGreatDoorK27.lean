/- Configurations: a chain behind a command of it, its members the command's own. -/
import Derived.Test.YtbneclkckmdkgaaGreatDoorK26
set_option linter.all false
set_option linter.unusedVariables false
set_option linter.unusedSimpArgs false
namespace Go.Sym
open Go Go.Proofs.Tryz
set_option maxRecDepth 100000
theorem chns_put (O:Opq) {l:List Chn} {i:Nat} {y:Chn}:O.o (Chns.enc O) (l.set i y)=(O.o (Chns.enc O) l).set i (y.enc O):=by
 simp only [O.h];rw[Chns.enc,Chns.enc,List.map_set]
theorem idx_cases {k:Int} {m:List Int}:(idxI k m<0∧¬ k∈m)∨(0≤idxI k m∧idxI k m<m.length∧k∈m∧(idxI k m).toNat=m.idxOf k):=by
 rw[idxI]
 by_cases h:k∈m
 ·rw[if_pos h]
  have:=List.idxOf_lt_length_of_mem h
  right;exact⟨by omega,by omega,h,by simp⟩
 ·rw[if_neg h];left;exact⟨by decide,h⟩
abbrev fTurn:Nat:=15
set_option maxHeartbeats 4000000 in
theorem turnX_prom (O:Opq) {l:List Chn} {i:Nat} {id ep jo k1 k2 k3 k4:Int} {dfn k5:ByteArray} {mem k6:List Int} (hil:i<l.length) (hl:l.length≤1000000) (hm:mem.length≤1000000) (hep:0≤ep∧ep≤2147483647) (c1:k3=ep) (c4:¬ k1=1) (c8:¬ k1=2) (cj:¬ jo=0) (cf:¬ mem.length=4) :
  Fn prog fTurn [.er 0 i 0,.agg ((⟨k1,k2,k3,k4,k5,k6⟩:CmdK).enc O)] [.arrx 0 5 (O.o (Chns.enc O) l) i [.int .i64 id,.str dfn,.int .i64 ep,.ref 1,.int .i64 jo],.arr 0 none 1 (O.o NumsE mem)] [.int .i64 (doneC ⟨id,dfn,ep,mem++[jo],0⟩).2] [.frz 0 5 (O.o (Chns.enc O) (l.set i (doneC ⟨id,dfn,ep,mem++[jo],0⟩).1)),.dead]:=by
 have hlen:=Chns.len O l
 have hput:=fun y=>chns_put O (l:=l) (i:=i) (y:=y)
 have ki:=indexI_fn0 O mem k4 hm
 have hmem:=NumsE.len O mem
 obtain⟨I,eI⟩:∃ I,I=O.o (idxI k4) mem:=⟨_,rfl⟩
 rw[← eI] at ki
 clear eI
 have hap:O.o NumsE (mem++[jo])=O.o NumsE mem++[[.int .i64 jo]]:=by simp only [O.h];rw[NumsE,NumsE,List.map_append];rfl
 have hI:=trivial
 obtain⟨mem2,hm2⟩:∃ m,m=mem++[jo]:=⟨_,rfl⟩
 rw[← hm2] at hap ⊢
 obtain⟨Q,e⟩:∃ Q,doneC ⟨id,dfn,ep,mem2,0⟩=Q:=⟨_,rfl⟩
 have e:=Eq.refl (doneC ⟨id,dfn,ep,mem2,0⟩)
 have hw:∀ (E:Int) (RA:List (List PV)),RA=O.o NumsE mem2→WkR ((O.o (Chns.enc O) l).set i [.int .i64 id,.str dfn,.int .i64 E,.sl false 0 false 1 (O.o NumsE mem2),.int .i64 0]) ((O.o (Chns.enc O) l).set i [.int .i64 id,.str dfn,.int .i64 E,.sl false 2 false 1 RA,.int .i64 0]):=fun E RA hRA=>(WkR.refl _).set (.cons (.refl _) (.cons (.refl _) (.cons (.refl _) (.cons (.sl' rfl rfl (.of_eq hRA.symm)) (.cons (.refl _) (.refl _)))))) _
 rw[e]
 by_cases c9:ep=maxCount
 ·have e2:doneC ⟨id,dfn,ep,mem2,0⟩=(⟨id,dfn,ep,mem2,0⟩,2):=by rw[doneC,if_pos c9]
  rw[e2]
  show Fn prog fTurn _ _ [.int .i64 2] [.frz 0 5 (O.o (Chns.enc O) (l.set i ⟨id,dfn,ep,mem2,0⟩)),.dead]
  rw[hput ⟨id,dfn,ep,mem2,0⟩]
  unfold maxCount at c9
  clear hput hI
  refine go (fn:=Proofs.Tryz.f15) (n:=164) (rv:=[ResultVar.tmp 4]) rfl (by decide) rfl (by decide +kernel) rfl rfl (by simp) fun F L C=>?_
  cbv
  (repeat' first|(refine Na ?_ fun _ _=>?_;(focus lia);cbv)|(fail)|(refine CallThen.mk _ _ (C.fn (Fn.wkA (ki) ?_)) ?_;(focus((repeat' apply WkAL.cons)<;>first|exact WkAL.nil|exact WkA.refl _|exact WkA.lend rfl|exact WkA.bor rfl (WkR.refl _)|exact WkA.wk (Wk.nil _ _)|exact WkA.wk (Wk.sl' rfl rfl (WkR.refl _))|(refine WkA.agg' ?_;((repeat' apply WkAL.cons)<;>first|exact WkAL.nil|exact WkA.refl _|exact WkA.lend rfl|exact WkA.bor rfl (WkR.refl _)|exact WkA.wk (Wk.nil _ _)|exact WkA.wk (Wk.sl' rfl rfl (WkR.refl _))|(refine WkA.agg' ?_;((repeat' apply WkAL.cons)<;>first|exact WkAL.nil|exact WkA.refl _|exact WkA.lend rfl|exact WkA.bor rfl (WkR.refl _)|exact WkA.wk (Wk.nil _ _)|exact WkA.wk (Wk.sl' rfl rfl (WkR.refl _))))))));cbv)|(refine RetThen.mk [] [0] ?_;cbv)|(refine Nl fun _ _ hq=>?_;(try simp only [lenS] at hq);cbv)|(refine Nm fun _ _=>?_;cbv)|(refine Br.t ?_ ?_;(focus first|assumption|lia);cbv)|(refine Br.f ?_ ?_;(focus first|assumption|lia);cbv)|(refine Br.mk (fun _=>?_) (fun _=>?_)<;>cbv)|(refine Need.mk ?_ ?_;rotate_left;cbv)|(refine R0 ?_;cbv))
  all_goals first
   | exact⟨.refl _,trivial⟩
   | exact⟨rfl,.refl _,trivial⟩
   | (clear ki;exact⟨rfl,.of_eq (by subst_vars;rfl),trivial⟩)
   | (clear ki;exact⟨.of_eq (by subst_vars;rfl),trivial⟩)
   | (rename_i RA hRA;have h1:=hw ep RA (hRA.trans hap.symm);clear ki hw;cbv at h1;exact⟨h1,trivial⟩)
   | (rename_i RA hRA;have h1:=hw ep1 RA (hRA.trans hap.symm);clear ki hw;cbv at h1;exact⟨h1,trivial⟩)
   | (clear ki hw;show((O.o NumsE mem).length+1) * 8≤2 ^ 44∧(O.o NumsE mem).length+1≤2 ^ 60;lia)
   | (exfalso;clear ki;lia)
   | (clear ki;lia)
   | trace_state
 ·have e2:doneC ⟨id,dfn,ep,mem2,0⟩=(⟨id,dfn,ep+1,mem2,0⟩,0):=by rw[doneC,if_neg c9]
  rw[e2]
  show Fn prog fTurn _ _ [.int .i64 0] [.frz 0 5 (O.o (Chns.enc O) (l.set i ⟨id,dfn,ep+1,mem2,0⟩)),.dead]
  rw[hput ⟨id,dfn,ep+1,mem2,0⟩]
  unfold maxCount at c9
  obtain⟨ep1,hep1⟩:∃ e:Int,e=ep+1:=⟨_,rfl⟩
  have hep2:ep1=IntKind.i64.wrap (ep+1):=by rw[wrap64 (by omega)];exact hep1
  rw[← hep1]
  clear hput hI
  refine go (fn:=Proofs.Tryz.f15) (n:=164) (rv:=[ResultVar.tmp 4]) rfl (by decide) rfl (by decide +kernel) rfl rfl (by simp) fun F L C=>?_
  cbv
  (repeat' first|(refine Named.at' ep1 hep2 ?_;cbv)|(refine Na ?_ fun _ _=>?_;(focus lia);cbv)|(fail)|(refine CallThen.mk _ _ (C.fn (Fn.wkA (ki) ?_)) ?_;(focus((repeat' apply WkAL.cons)<;>first|exact WkAL.nil|exact WkA.refl _|exact WkA.lend rfl|exact WkA.bor rfl (WkR.refl _)|exact WkA.wk (Wk.nil _ _)|exact WkA.wk (Wk.sl' rfl rfl (WkR.refl _))|(refine WkA.agg' ?_;((repeat' apply WkAL.cons)<;>first|exact WkAL.nil|exact WkA.refl _|exact WkA.lend rfl|exact WkA.bor rfl (WkR.refl _)|exact WkA.wk (Wk.nil _ _)|exact WkA.wk (Wk.sl' rfl rfl (WkR.refl _))|(refine WkA.agg' ?_;((repeat' apply WkAL.cons)<;>first|exact WkAL.nil|exact WkA.refl _|exact WkA.lend rfl|exact WkA.bor rfl (WkR.refl _)|exact WkA.wk (Wk.nil _ _)|exact WkA.wk (Wk.sl' rfl rfl (WkR.refl _))))))));cbv)|(refine RetThen.mk [] [0] ?_;cbv)|(refine Nl fun _ _ hq=>?_;(try simp only [lenS] at hq);cbv)|(refine Nm fun _ _=>?_;cbv)|(refine Br.t ?_ ?_;(focus first|assumption|lia);cbv)|(refine Br.f ?_ ?_;(focus first|assumption|lia);cbv)|(refine Br.mk (fun _=>?_) (fun _=>?_)<;>cbv)|(refine Need.mk ?_ ?_;rotate_left;cbv)|(refine R0 ?_;cbv))
  all_goals first
   | exact⟨.refl _,trivial⟩
   | exact⟨rfl,.refl _,trivial⟩
   | (clear ki;exact⟨rfl,.of_eq (by subst_vars;rfl),trivial⟩)
   | (clear ki;exact⟨.of_eq (by subst_vars;rfl),trivial⟩)
   | (rename_i RA hRA;have h1:=hw ep RA (hRA.trans hap.symm);clear ki hw;cbv at h1;exact⟨h1,trivial⟩)
   | (rename_i RA hRA;have h1:=hw ep1 RA (hRA.trans hap.symm);clear ki hw;cbv at h1;exact⟨h1,trivial⟩)
   | (clear ki hw;show((O.o NumsE mem).length+1) * 8≤2 ^ 44∧(O.o NumsE mem).length+1≤2 ^ 60;lia)
   | (exfalso;clear ki;lia)
   | (clear ki;lia)
   | trace_state
end Go.Sym
