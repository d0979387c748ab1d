/- The document's reading of expressions: its small functions. -/
import Derived.Test.YtfdbdalnpdgfmaaGreatDoorK18
set_option linter.all false
set_option linter.unusedVariables false
set_option linter.unusedSimpArgs false
namespace Go.Sym
open Go Go.Proofs.Tryz
set_option maxRecDepth 100000
theorem nameL_or (w:List UInt8):nameL w=true ↔ (ofL w=⟨#[110,111,114,109]⟩∨ofL w=⟨#[99,111,110,106]⟩∨ofL w=⟨#[116,117,114,110]⟩∨ofL w=⟨#[108,111,119]⟩∨ofL w=⟨#[104,101,97,100]⟩):=by
 rw[← nameL_in]
 simp only [inS,names5,List.any_cons,List.any_nil,Bool.or_false,Bool.or_eq_true,decide_eq_true_eq]
theorem rname_fn (O:Opq) (w:List UInt8):Fn prog 44 [.str (O.o ofL w)] [] [.bool (O.o nameL w)] []:=by
 have hB:=nameL_or w
 rw[show nameL w=O.o nameL w by rw[O.h],show ofL w=O.o ofL w by rw[O.h]] at hB
 obtain⟨S,hS⟩:∃ S,S=O.o ofL w:=⟨_,rfl⟩
 obtain⟨B,eB⟩:∃ B,B=O.o nameL w:=⟨_,rfl⟩
 rw[← hS,← eB] at hB
 rw[← hS,← eB]
 clear hS eB
 cases B
 all_goals
  refine go (fn:=Proofs.Tryz.f44) (n:=20) (rv:=[ResultVar.tmp 2]) rfl (by decide) rfl (by decide +kernel) rfl rfl (by simp) fun F L C=>?_
  cbv
  (repeat' first|(refine Na ?_ fun _ _=>?_;(focus lia);cbv)|(refine Nl fun _ _ hq=>?_;(try simp only [lenS] at hq);cbv)|(refine Nm fun _ _=>?_;cbv)|(refine Br.t ?_ ?_;(focus first|assumption|lia);cbv)|(refine Br.f ?_ ?_;(focus first|assumption|lia);cbv)|(refine Br.mk (fun _=>?_) (fun _=>?_)<;>cbv)|(refine Need.mk ?_ ?_;rotate_left;cbv)|(refine R0 ?_;cbv))
  all_goals first
   | exact⟨rfl,trivial⟩
   | (exfalso;simp_all;done)
   | trace_state
theorem isD_int {d:UInt8}:isD d=true ↔ 48≤(d.toNat:Int)∧(d.toNat:Int)≤57:=by
 simp only [isD,Bool.and_eq_true,decide_eq_true_eq]
 generalize d.toNat=k
 omega
theorem rplain_fn (O:Opq) (s:List UInt8) (hl:s.length≤1000000):Fn prog 45 [.str (O.o ofL s)] [] [.bool (O.o plainL s)] []:=by
 have hsz:(O.o ofL s).size=s.length:=by rw[O.h,size_ofL]
 obtain⟨S,hS⟩:∃ S,S=O.o ofL s:=⟨_,rfl⟩
 obtain⟨z,hz⟩:∃ z:Nat,z=0:=⟨_,rfl⟩
 obtain⟨N,hN⟩:∃ N:Nat,N=s.length:=⟨_,rfl⟩
 have hb:∀ i:Nat,byteAt S i=((s.getD i 0).toNat:Int):=fun i=>by rw[hS,O.h,byteAt_ofL]
 rw[← hS] at hsz ⊢
 clear hS
 refine go (fn:=Proofs.Tryz.f45) (n:=19) (rv:=[ResultVar.tmp 2]) rfl (by decide) rfl (by decide +kernel) rfl rfl (by simp) fun F L C=>?_
 cbv
 (repeat' first|(refine Na ?_ fun _ _=>?_;(focus lia);cbv)|(refine Nl fun _ _ hq=>?_;(try simp only [lenS] at hq);cbv)|(refine Nm fun _ _=>?_;cbv)|(refine Br.t ?_ ?_;(focus first|assumption|lia);cbv)|(refine Br.f ?_ ?_;(focus first|assumption|lia);cbv)|(refine Br.mk (fun _=>?_) (fun _=>?_)<;>cbv)|(refine Need.mk ?_ ?_;rotate_left;cbv)|(refine R0 ?_;cbv))
 refine LoopThen.mk (C.loopAt (ι:=Nat) [(2,19)] (fun i=>[(3,.int .i64 i)]) (fun _=>[])
  (fun i=>i≤s.length∧∀ (j:Nat) c,j<i→s[j]?=some c→isD c=true) (fun i=>N-i) (by decide +kernel) (Start.mk z [] [] ⟨by omega,fun j x hj=>by omega⟩ (by cbv;(repeat' apply And.intro)<;>first|exact True.intro|exact WkR.refl _|rfl|lia)) ?_)
 intro i g
 cbv
 have g1:i≤s.length:=g.1
 have g2:=g.2
 clear g
 by_cases hk:i<s.length
 ·have hx:=getD_some hk
  have hv:=hb i
  have hD:isD (s.getD i 0)=true ↔ 48≤byteAt S i∧byteAt S i≤57:=by rw[hv];exact isD_int
  have hno:¬ (48≤byteAt S i∧byteAt S i≤57)→O.o plainL s=false:=fun h=>by
   rw[O.h,plainL,List.all_eq_false]
   exact⟨_,List.mem_of_getElem? hx,fun e=>h (hD.1 e)⟩
  have hst:(48≤byteAt S i∧byteAt S i≤57)→∀ (j:Nat) c,j<i+1→s[j]?=some c→isD c=true:=fun h j c hj hy=>by
   by_cases ej:j=i
   ·subst ej;rw[hx] at hy;cases hy;exact hD.2 h
   ·exact g2 j c (by omega) hy
  obtain⟨Q,eQ⟩:∃ Q,Q=O.o plainL s:=⟨_,rfl⟩
  rw[← eQ] at hno ⊢
  clear g2 eQ hx hD hb hv
  (repeat' first|(refine Na ?_ fun _ _=>?_;(focus lia);cbv)|(refine Back.up [] [] ?_ ?_ fun _ _=>?_;rotate_left 2;cbv;refine And.intro ?_ ?_)|(refine Nl fun _ _ hq=>?_;(try simp only [lenS] at hq);cbv)|(refine Nm fun _ _=>?_;cbv)|(refine Br.t ?_ ?_;(focus first|assumption|lia);cbv)|(refine Br.f ?_ ?_;(focus first|assumption|lia);cbv)|(refine Br.mk (fun _=>?_) (fun _=>?_)<;>cbv)|(refine Need.mk ?_ ?_;rotate_left;cbv)|(refine R0 ?_;cbv))
  all_goals(repeat' apply And.intro)
  all_goals try first
   | exact True.intro
   | exact WkR.refl _
   | (clear hst hno;lia)
  all_goals first
   | exact hst ⟨by clear hst hno;lia,by clear hst hno;lia⟩
   | (rw[hno (by clear hst hno;lia)])
   | (symm;exact hno (by clear hst hno;lia))
   | trace_state
 ·have hyes:O.o plainL s=true:=by
   rw[O.h,plainL,List.all_eq_true]
   intro c hc
   obtain⟨j,hj,rfl⟩:=List.getElem_of_mem hc
   exact g2 j _ (by omega) (by simp)
  rw[hyes]
  clear g2 hb
  (repeat' first|(refine Na ?_ fun _ _=>?_;(focus lia);cbv)|(refine Nl fun _ _ hq=>?_;(try simp only [lenS] at hq);cbv)|(refine Nm fun _ _=>?_;cbv)|(refine Br.t ?_ ?_;(focus first|assumption|lia);cbv)|(refine Br.f ?_ ?_;(focus first|assumption|lia);cbv)|(refine Br.mk (fun _=>?_) (fun _=>?_)<;>cbv)|(refine Need.mk ?_ ?_;rotate_left;cbv)|(refine R0 ?_;cbv))
  all_goals first
   | exact⟨rfl,trivial⟩
   | (exfalso;lia)
   | trace_state
theorem rdigits_fn (O:Opq):∀ (n:Nat),n<1000000000000000000→∀ v:Int,v=n→Fn prog 46 [.int .i64 v] [] [.str (O.o ofL (digN n))] []:=by
 intro n
 induction n using Nat.strongRecOn with
 | ind n ih =>
  intro hn v hv
  by_cases h10:n<10
  ·have e1:O.o ofL (digN n)=O.o digB1 n:=by rw[O.h,O.h,digN_lt h10]
   have e2:=digB1_eq h10
   rw[e1,O.h,e2]
   obtain⟨D,hD⟩:∃ D:ByteArray,D=digitB.extract n (n+1):=⟨_,rfl⟩
   rw[← hD]
   unfold digitB at hD
   have hv0:v.toNat=n:=by rw[hv];rfl
   have hv1:∀ b:Int,b=v+1→b.toNat=n+1:=fun b h=>by rw[h,hv];omega
   have hv2:∀ b:Int,b=v+1→0≤v∧v≤b∧b≤10:=fun b h=>by rw[h,hv];omega
   clear ih e1 e2
   refine go (fn:=Proofs.Tryz.f46) (n:=15) (rv:=[ResultVar.tmp 2]) rfl (by decide) rfl (by decide +kernel) rfl rfl (by simp) fun F L C=>?_
   cbv
   (repeat' first|(refine Na ?_ fun _ _=>?_;(focus lia);cbv)|(refine Nl fun _ _ hq=>?_;(try simp only [lenS] at hq);cbv)|(refine Nm fun _ _=>?_;cbv)|(refine Br.t ?_ ?_;(focus first|assumption|lia);cbv)|(refine Br.f ?_ ?_;(focus first|assumption|lia);cbv)|(refine Br.mk (fun _=>?_) (fun _=>?_)<;>cbv)|(refine Need.mk ?_ ?_;rotate_left;cbv)|(refine R0 ?_;cbv))
   ·rename_i b eb a ea
    exact⟨by rw[ea,hD,hv0,hv1 b eb],trivial⟩
   ·rename_i a ea
    exact hv2 a ea
  ·have e1:O.o ofL (digN n)=O.o ofL (digN (n / 10))++O.o ofL (digN (n % 10)):=by simp only [O.h];exact digN_ge h10
   have k1:=ih (n / 10) (by omega) (by omega) (n / 10:Nat) rfl
   have k2:=ih (n % 10) (by omega) (by omega) (n % 10:Nat) rfl
   have q1:((n / 10:Nat):Int)=v.tdiv 10:=by rw[hv];simp
   have q2:((n % 10:Nat):Int)=v.tmod 10:=by rw[hv,Int.tmod_eq_emod_of_nonneg (by omega)];simp
   rw[e1]
   obtain⟨A,hA⟩:∃ A,A=O.o ofL (digN (n / 10)):=⟨_,rfl⟩
   obtain⟨B,hB⟩:∃ A,A=O.o ofL (digN (n % 10)):=⟨_,rfl⟩
   have h18:∀ m,m≤n→(O.o ofL (digN m)).size≤18:=fun m hm=>by rw[O.h,size_ofL];exact digN_len (by decide) (by omega)
   have hAs:A.size≤18:=by rw[hA];exact h18 _ (by omega)
   have hBs:B.size≤18:=by rw[hB];exact h18 _ (by omega)
   rw[← hA,← hB]
   obtain⟨AB,hAB⟩:∃ AB:ByteArray,AB=A++B:=⟨_,rfl⟩
   rw[← hAB]
   rw[← hA] at k1
   rw[← hB] at k2
   clear ih e1 hA hB h18
   obtain⟨x,hx⟩:∃ x:Int,x=(n / 10:Nat):=⟨_,rfl⟩
   obtain⟨y,hy⟩:∃ x:Int,x=(n % 10:Nat):=⟨_,rfl⟩
   rw[← hx] at k1 q1
   rw[← hy] at k2 q2
   refine go (fn:=Proofs.Tryz.f46) (n:=15) (rv:=[ResultVar.tmp 2]) rfl (by decide) rfl (by decide +kernel) rfl rfl (by simp) fun F L C=>?_
   cbv
   (repeat' first|(refine Na ?_ fun _ _=>?_;(focus lia);cbv)|(refine CallThen.mk _ _ (C.fn (k1)) ?_;cbv)|(refine CallThen.mk _ _ (C.fn (k2)) ?_;cbv)|(refine Nl fun _ _ hq=>?_;(try simp only [lenS] at hq);cbv)|(refine Nm fun _ _=>?_;cbv)|(refine Br.t ?_ ?_;(focus first|assumption|lia);cbv)|(refine Br.f ?_ ?_;(focus first|assumption|lia);cbv)|(refine Br.mk (fun _=>?_) (fun _=>?_)<;>cbv)|(refine Need.mk ?_ ?_;rotate_left;cbv)|(refine R0 ?_;cbv))
   all_goals try decide
   all_goals try(exfalso;clear k1 k2;lia)
   rename_i a ea
   obtain rfl:a=x:=ea.trans q1.symm
   (repeat' first|(refine Na ?_ fun _ _=>?_;(focus lia);cbv)|(refine CallThen.mk _ _ (C.fn (k1)) ?_;cbv)|(refine CallThen.mk _ _ (C.fn (k2)) ?_;cbv)|(refine Nl fun _ _ hq=>?_;(try simp only [lenS] at hq);cbv)|(refine Nm fun _ _=>?_;cbv)|(refine Br.t ?_ ?_;(focus first|assumption|lia);cbv)|(refine Br.f ?_ ?_;(focus first|assumption|lia);cbv)|(refine Br.mk (fun _=>?_) (fun _=>?_)<;>cbv)|(refine Need.mk ?_ ?_;rotate_left;cbv)|(refine R0 ?_;cbv))
   all_goals try decide
   rename_i b eb
   obtain rfl:b=y:=eb.trans q2.symm
   (repeat' first|(refine Na ?_ fun _ _=>?_;(focus lia);cbv)|(refine CallThen.mk _ _ (C.fn (k1)) ?_;cbv)|(refine CallThen.mk _ _ (C.fn (k2)) ?_;cbv)|(refine Nl fun _ _ hq=>?_;(try simp only [lenS] at hq);cbv)|(refine Nm fun _ _=>?_;cbv)|(refine Br.t ?_ ?_;(focus first|assumption|lia);cbv)|(refine Br.f ?_ ?_;(focus first|assumption|lia);cbv)|(refine Br.mk (fun _=>?_) (fun _=>?_)<;>cbv)|(refine Need.mk ?_ ?_;rotate_left;cbv)|(refine R0 ?_;cbv))
   all_goals first
    | (rename_i c ec;exact⟨hAB.trans ec.symm,trivial⟩)
    | (clear k1 k2;omega)
    | (exfalso;clear k1 k2;lia)
    | trace_state
theorem rlastX_fn (O:Opq) (s:List UInt8) (c:UInt8) (cv:Int) (hcv:cv=c.toNat) (hc:parV c=0) (hl:s.length≤1000000):Fn prog 42 [.str (O.o ofL s),.int .u8 cv] [] [.int .i64 (O.o (lastI c s) s.length)] []:=by
 have hsz:(O.o ofL s).size=s.length:=by rw[O.h,size_ofL]
 obtain⟨S,hS⟩:∃ S,S=O.o ofL s:=⟨_,rfl⟩
 obtain⟨z,hz⟩:∃ z:Nat,z=0:=⟨_,rfl⟩
 obtain⟨N,hN⟩:∃ N:Nat,N=s.length:=⟨_,rfl⟩
 have hb:∀ i:Nat,byteAt S i=((s.getD i 0).toNat:Int):=fun i=>by rw[hS,O.h,byteAt_ofL]
 have h0:O.o (netI s) z=0:=by rw[O.h,hz];rfl
 have h1:O.o (lastI c s) z=-1:=by rw[O.h,hz];rfl
 have hnet:∀ i,-(s.length:Int)≤O.o (netI s) i∧O.o (netI s) i≤s.length:=fun i=>by rw[O.h];exact netI_abs s i
 rw[← hS] at hsz ⊢
 obtain⟨Q,hQ⟩:∃ Q,Q=O.o (lastI c s) s.length:=⟨_,rfl⟩
 rw[← hQ]
 clear hS
 refine go (fn:=Proofs.Tryz.f42) (n:=35) (rv:=[ResultVar.tmp 4]) rfl (by decide) rfl (by decide +kernel) rfl rfl (by simp) fun F L C=>?_
 cbv
 (repeat' first|(refine Na ?_ fun _ _=>?_;(focus lia);cbv)|(refine Nl fun _ _ hq=>?_;(try simp only [lenS] at hq);cbv)|(refine Nm fun _ _=>?_;cbv)|(refine Br.t ?_ ?_;(focus first|assumption|lia);cbv)|(refine Br.f ?_ ?_;(focus first|assumption|lia);cbv)|(refine Br.mk (fun _=>?_) (fun _=>?_)<;>cbv)|(refine Need.mk ?_ ?_;rotate_left;cbv)|(refine R0 ?_;cbv))
 refine LoopThen.mk (C.loopAt (ι:=Nat) [(5,35)] (fun i=>[(5,.int .i64 (O.o (netI s) i)),(6,.int .i64 (O.o (lastI c s) i)),(7,.int .i64 i)]) (fun _=>[])
  (fun i=>i≤s.length) (fun i=>N-i) (by decide +kernel) (Start.mk z [] [] (show z≤s.length by omega) ?_) ?_)
 ·cbv
  (repeat' apply And.intro)<;>first|exact True.intro|exact h0.symm|exact h1.symm|exact h0|exact h1|(clear hb hnet;lia)|trace_state
 intro i g
 cbv
 have g1:i≤s.length:=g
 clear g
 by_cases hk:i<s.length
 ·have hv:=hb i
  have hn:=net_cases hk hv
  have ha:=last_cases hc hk hv hcv
  have hx:=hnet i
  rw[show netI s i=O.o (netI s) i by rw[O.h],show netI s (i+1)=O.o (netI s) (i+1) by rw[O.h]] at hn
  rw[show lastI c s i=O.o (lastI c s) i by rw[O.h],show lastI c s (i+1)=O.o (lastI c s) (i+1) by rw[O.h],show netI s (i+1)=O.o (netI s) (i+1) by rw[O.h]] at ha
  obtain⟨N1,hN1⟩:∃ x,x=O.o (netI s) (i+1):=⟨_,rfl⟩
  obtain⟨A1,hA1⟩:∃ x,x=O.o (lastI c s) (i+1):=⟨_,rfl⟩
  rw[← hN1] at hn ha
  rw[← hA1] at ha
  clear hb hnet hv h0 h1 hcv
  (repeat' first|(refine Na ?_ fun _ _=>?_;(focus lia);cbv)|(refine Back.up [] [] ?_ ?_ fun _ _=>?_;rotate_left 2;cbv;refine And.intro ?_ ?_)|(refine Nl fun _ _ hq=>?_;(try simp only [lenS] at hq);cbv)|(refine Nm fun _ _=>?_;cbv)|(refine Br.t ?_ ?_;(focus first|assumption|lia);cbv)|(refine Br.f ?_ ?_;(focus first|assumption|lia);cbv)|(refine Br.mk (fun _=>?_) (fun _=>?_)<;>cbv)|(refine Need.mk ?_ ?_;rotate_left;cbv)|(refine R0 ?_;cbv))
  all_goals(repeat' apply And.intro)
  all_goals try first
   | exact True.intro
   | exact WkR.refl _
   | (rw[← hN1];clear hN1 hA1;lia)
   | (rw[← hA1];clear hN1 hA1;lia)
   | (clear hN1 hA1;lia)
  all_goals rename_i y ey;subst ey
  all_goals first
   | (refine hN1.symm.trans ?_;clear hN1 hA1;lia)
   | (refine hA1.symm.trans ?_;clear hN1 hA1;lia)
   | (refine Eq.trans ?_ hN1;clear hN1 hA1;lia)
   | (refine Eq.trans ?_ hA1;clear hN1 hA1;lia)
   | (refine hA1.symm.trans ?_;show A1=O.o (lastI c s) i;clear hN1 hA1;lia)
   | trace_state
 ·have e:Q=O.o (lastI c s) i:=by rw[hQ,show i=s.length by omega]
  clear hb hnet hQ
  (repeat' first|(refine Na ?_ fun _ _=>?_;(focus lia);cbv)|(refine Nl fun _ _ hq=>?_;(try simp only [lenS] at hq);cbv)|(refine Nm fun _ _=>?_;cbv)|(refine Br.t ?_ ?_;(focus first|assumption|lia);cbv)|(refine Br.f ?_ ?_;(focus first|assumption|lia);cbv)|(refine Br.mk (fun _=>?_) (fun _=>?_)<;>cbv)|(refine Need.mk ?_ ?_;rotate_left;cbv)|(refine R0 ?_;cbv))
  all_goals first
   | exact⟨e,trivial⟩
   | exact⟨e.symm,trivial⟩
   | (exfalso;lia)
   | trace_state
theorem rwhole_fn (O:Opq) (s:List UInt8) (hl:s.length≤1000000):Fn prog 43 [.str (O.o ofL s)] [] [.bool (O.o wholeD s)] []:=by
 have hsz:(O.o ofL s).size=s.length:=by rw[O.h,size_ofL]
 obtain⟨S,hS⟩:∃ S,S=O.o ofL s:=⟨_,rfl⟩
 obtain⟨z,hz⟩:∃ z:Nat,z=0:=⟨_,rfl⟩
 obtain⟨N,hN⟩:∃ N:Nat,N=s.length:=⟨_,rfl⟩
 have hb:∀ i:Nat,byteAt S i=((s.getD i 0).toNat:Int):=fun i=>by rw[hS,O.h,byteAt_ofL]
 have h0:O.o (netI s) z=0:=by rw[O.h,hz];rfl
 have hnet:∀ i,-(s.length:Int)≤O.o (netI s) i∧O.o (netI s) i≤s.length:=fun i=>by rw[O.h];exact netI_abs s i
 rw[← hS] at hsz ⊢
 obtain⟨Q,hQ⟩:∃ Q,Q=O.o wholeD s:=⟨_,rfl⟩
 have hQ1:Q=wholeD s:=by rw[hQ,O.h]
 rw[← hQ]
 clear hS hQ
 refine go (fn:=Proofs.Tryz.f43) (n:=38) (rv:=[ResultVar.tmp 2]) rfl (by decide) rfl (by decide +kernel) rfl rfl (by simp) fun F L C=>?_
 cbv
 (repeat' first|(refine Na ?_ fun _ _=>?_;(focus lia);cbv)|(refine Nl fun _ _ hq=>?_;(try simp only [lenS] at hq);cbv)|(refine Nm fun _ _=>?_;cbv)|(refine Br.t ?_ ?_;(focus first|assumption|lia);cbv)|(refine Br.f ?_ ?_;(focus first|assumption|lia);cbv)|(refine Br.mk (fun _=>?_) (fun _=>?_)<;>cbv)|(refine Need.mk ?_ ?_;rotate_left;cbv)|(refine R0 ?_;cbv))
 refine LoopThen.mk (C.loopAt (ι:=Nat) [(2,31)] (fun i=>[(3,.int .i64 (O.o (netI s) i)),(4,.int .i64 i)]) (fun _=>[])
  (fun i=>i≤s.length∧∀ j,0<j→j≤i→j<s.length→0<netI s j) (fun i=>N-i) (by decide +kernel) (Start.mk z [] [] ⟨by omega,fun j h1 h2=>by omega⟩ ?_) ?_)
 ·cbv
  (repeat' apply And.intro)<;>first|exact True.intro|exact h0.symm|exact h0|(clear hb hnet hQ1;lia)|trace_state
 intro i g
 cbv
 have g1:i≤s.length:=g.1
 have g2:=g.2
 clear g
 by_cases hk:i<s.length
 ·have hv:=hb i
  have hn:=net_cases hk hv
  have hx:=hnet i
  have hst:(0<netI s (i+1)∨¬ i+1<s.length)→∀ j,0<j→j≤i+1→j<s.length→0<netI s j:=fun h j h1 h2 h3=>by
   by_cases e:j=i+1
   ·subst e;omega
   ·exact g2 j h1 (by omega) h3
  have hno:netI s (i+1)≤0→i+1<s.length→Q=false:=fun h1 h2=>by rw[hQ1];exact wholeD_no h1 h2
  rw[show netI s i=O.o (netI s) i by rw[O.h],show netI s (i+1)=O.o (netI s) (i+1) by rw[O.h]] at hn
  rw[show netI s (i+1)=O.o (netI s) (i+1) by rw[O.h]] at hst hno
  obtain⟨N1,hN1⟩:∃ x,x=O.o (netI s) (i+1):=⟨_,rfl⟩
  rw[← hN1] at hn hst hno
  clear hb hnet hv h0 g2 hQ1
  (repeat' first|(refine Na ?_ fun _ _=>?_;(focus lia);cbv)|(refine Back.up [] [] ?_ ?_ fun _ _=>?_;rotate_left 2;cbv;refine And.intro ?_ ?_)|(refine Nl fun _ _ hq=>?_;(try simp only [lenS] at hq);cbv)|(refine Nm fun _ _=>?_;cbv)|(refine Br.t ?_ ?_;(focus first|assumption|lia);cbv)|(refine Br.f ?_ ?_;(focus first|assumption|lia);cbv)|(refine Br.mk (fun _=>?_) (fun _=>?_)<;>cbv)|(refine Need.mk ?_ ?_;rotate_left;cbv)|(refine R0 ?_;cbv))
  all_goals(repeat' apply And.intro)
  all_goals try first
   | exact True.intro
   | exact WkR.refl _
   | (clear hN1 hst hno;lia)
  all_goals first
   | exact hst (by clear hN1 hst hno;first|(left;lia)|(right;lia))
   | exact hno (by clear hN1 hst hno;lia) (by clear hN1 hst hno;lia)
   | exact(hno (by clear hN1 hst hno;lia) (by clear hN1 hst hno;lia)).symm
   | (rename_i y ey;subst ey;refine hN1.symm.trans ?_;clear hN1 hst hno;lia)
   | (rename_i y ey;subst ey;refine Eq.trans ?_ hN1;clear hN1 hst hno;lia)
   | trace_state
 ·have hi:i=s.length:=by omega
  have hB:=wholeD_end fun j h1 h2=>g2 j h1 (by omega) h2
  rw[← hQ1,← hi,show netI s i=O.o (netI s) i by rw[O.h]] at hB
  clear hb g2 hQ1
  cases Q
  all_goals
   have hx:=hnet i
   (repeat' first|(refine Na ?_ fun _ _=>?_;(focus lia);cbv)|(refine Nl fun _ _ hq=>?_;(try simp only [lenS] at hq);cbv)|(refine Nm fun _ _=>?_;cbv)|(refine Br.t ?_ ?_;(focus first|assumption|lia);cbv)|(refine Br.f ?_ ?_;(focus first|assumption|lia);cbv)|(refine Br.mk (fun _=>?_) (fun _=>?_)<;>cbv)|(refine Need.mk ?_ ?_;rotate_left;cbv)|(refine R0 ?_;cbv))
   all_goals first
    | exact⟨rfl,trivial⟩
    | (exfalso;clear hnet;simp only [true_iff,false_iff,Bool.false_eq_true] at hB;lia)
    | (exfalso;clear hnet hB;lia)
    | trace_state
theorem rdepthX_fn (O:Opq):∀ (k:Nat),k≤100→∀ (x:Nd),NdB 100000 x→∀ v:Int,v=k→Fn prog 28 [.agg (x.en O),.int .i64 v] [] [.int .i64 (O.o (depthI k) x)] []
 | 0,_,.mk kk t n l,_,v,hv=>by
  have hq:O.o (depthI 0) (.mk kk t n l)=1:=by rw[O.h];rfl
  rw[hq]
  refine go (fn:=Proofs.Tryz.f28) (n:=29) (rv:=[ResultVar.tmp 4]) rfl (by decide) rfl (by decide +kernel) rfl rfl (by simp) fun F L C=>?_
  cbv
  (repeat' first|(refine Na ?_ fun _ _=>?_;(focus lia);cbv)|(refine Nl fun _ _ hq=>?_;(try simp only [lenS] at hq);cbv)|(refine Nm fun _ _=>?_;cbv)|(refine Br.t ?_ ?_;(focus first|assumption|lia);cbv)|(refine Br.f ?_ ?_;(focus first|assumption|lia);cbv)|(refine Br.mk (fun _=>?_) (fun _=>?_)<;>cbv)|(refine Need.mk ?_ ?_;rotate_left;cbv)|(refine R0 ?_;cbv))
  all_goals first
   | exact⟨rfl,trivial⟩
   | (exfalso;lia)
   | trace_state
 | k+1,hk,.mk kk t n l,hB,v,hv=>by
  have hq:O.o (depthI (k+1)) (.mk kk t n l)=O.o (accD k l) l.length+1:=by rw[O.h,O.h];exact depthI_succ k
  obtain⟨Q,hQ⟩:∃ Q,Q=O.o (depthI (k+1)) (.mk kk t n l):=⟨_,rfl⟩
  rw[← hQ] at hq ⊢
  have hl:=hB.len
  have hlen:=Nds.en_len O l
  obtain⟨z,hz⟩:∃ z:Nat,z=0:=⟨_,rfl⟩
  obtain⟨N,hN⟩:∃ N:Nat,N=l.length:=⟨_,rfl⟩
  obtain⟨w,hw⟩:∃ w:Int,w=k:=⟨_,rfl⟩
  have hw2:w=IntKind.i64.wrap (v-1):=by rw[wrap64 (by omega)];omega
  have hw3:w=v-1:=by omega
  have h0:O.o (accD k l) z=0:=by rw[O.h,hz];rfl
  have hle:∀ i,0≤O.o (accD k l) i∧O.o (accD k l) i≤200:=fun i=>by rw[O.h];have:=accD_le k l i;omega
  have ih:∀ x∈l,Fn prog 28 [.agg (x.en O),.int .i64 w] [] [.int .i64 (O.o (depthI k) x)] []:=fun x hx=>rdepthX_fn O k (by omega) x (hB.arg x hx) w hw
  clear hQ hB
  refine go (fn:=Proofs.Tryz.f28) (n:=29) (rv:=[ResultVar.tmp 4]) rfl (by decide) rfl (by decide +kernel) rfl rfl (by simp) fun F L C=>?_
  cbv
  (repeat' first|(refine Na ?_ fun _ _=>?_;(focus lia);cbv)|(refine Nl fun _ _ hq=>?_;(try simp only [lenS] at hq);cbv)|(refine Nm fun _ _=>?_;cbv)|(refine Br.t ?_ ?_;(focus first|assumption|lia);cbv)|(refine Br.f ?_ ?_;(focus first|assumption|lia);cbv)|(refine Br.mk (fun _=>?_) (fun _=>?_)<;>cbv)|(refine Need.mk ?_ ?_;rotate_left;cbv)|(refine R0 ?_;cbv))
  all_goals try(exfalso;clear ih hle;lia)
  refine LoopThen.mk (C.loopAt (ι:=Nat) [(5,7),(10,28)] (fun i=>[(5,.int .i64 (O.o (accD k l) i)),(6,.int .i64 i)]) (fun _=>[(256,.box [.int .i64 kk,.str (O.o ofL t),.int .i64 n,.sl false 0 false 4 (O.o Nds.enc l)])])
   (fun i=>i≤l.length) (fun i=>N-i) (by decide +kernel) (Start.mk z [] [] (show z≤l.length by omega) ?_) ?_)
  ·cbv
   (repeat' apply And.intro)<;>first|exact True.intro|exact h0.symm|exact h0|exact WkR.refl _|(clear ih hle;lia)|trace_state
  intro i g
  cbv
  have g1:i≤l.length:=g
  have hx:=hle i
  clear g h0
  by_cases hki:i<l.length
  ·obtain⟨x,hxi⟩:∃ x,l[i]?=some x:=⟨l[i],by simp [hki]⟩
   have kc:=ih x (List.mem_of_getElem? hxi)
   have hs:=accD_step (k:=k) hxi
   rw[show accD k l (i+1)=O.o (accD k l) (i+1) by rw[O.h],show accD k l i=O.o (accD k l) i by rw[O.h],show((depthN k x:Nat):Int)=O.o (depthI k) x by rw[O.h];rfl] at hs
   obtain⟨D,hD⟩:∃ D,D=O.o (depthI k) x:=⟨_,rfl⟩
   rw[← hD] at hs kc
   obtain⟨A1,hA1⟩:∃ A,A=O.o (accD k l) (i+1):=⟨_,rfl⟩
   rw[← hA1] at hs
   have hs:(O.o (accD k l) i≤D∧A1=D)∨(D≤O.o (accD k l) i∧A1=O.o (accD k l) i):=by omega
   obtain⟨kk',t',n',l'⟩:=x
   clear ih hle hD
   (repeat' first|(refine Named.at' w hw2 ?_;cbv)|(refine Named.at' w hw3 ?_;cbv)|(refine Na ?_ fun _ _=>?_;(focus lia);cbv)|(refine Ex.nd O hxi ?_ ?_;(focus lia);cbv)|(refine CallThen.mk _ _ (C.fn (kc)) ?_;cbv)|(refine Back.up [] [] ?_ ?_ fun _ _=>?_;rotate_left 2;cbv;refine And.intro ?_ ?_)|(refine Nl fun _ _ hq=>?_;(try simp only [lenS] at hq);cbv)|(refine Nm fun _ _=>?_;cbv)|(refine Br.t ?_ ?_;(focus first|assumption|lia);cbv)|(refine Br.f ?_ ?_;(focus first|assumption|lia);cbv)|(refine Br.mk (fun _=>?_) (fun _=>?_)<;>cbv)|(refine Need.mk ?_ ?_;rotate_left;cbv)|(refine R0 ?_;cbv))
   all_goals(repeat' apply And.intro)
   all_goals try first
    | exact True.intro
    | exact WkR.refl _
    | (clear hA1 kc hxi;lia)
   all_goals first
    | (rename_i y ey;subst ey;refine hA1.symm.trans ?_;clear hA1 kc hxi;lia)
    | (rename_i y ey;subst ey;refine Eq.trans ?_ hA1;clear hA1 kc hxi;lia)
    | (rename_i y ey;subst ey;refine hA1.symm.trans ?_;show A1=O.o (accD k l) i;clear hA1 kc hxi;lia)
    | trace_state
  ·have hq2:Q=O.o (accD k l) i+1:=by rw[hq,show i=l.length by omega]
   clear ih hle hq
   (repeat' first|(refine Na ?_ fun _ _=>?_;(focus lia);cbv)|(refine Nl fun _ _ hq=>?_;(try simp only [lenS] at hq);cbv)|(refine Nm fun _ _=>?_;cbv)|(refine Br.t ?_ ?_;(focus first|assumption|lia);cbv)|(refine Br.f ?_ ?_;(focus first|assumption|lia);cbv)|(refine Br.mk (fun _=>?_) (fun _=>?_)<;>cbv)|(refine Need.mk ?_ ?_;rotate_left;cbv)|(refine R0 ?_;cbv))
   all_goals first
    | exact⟨by lia,trivial⟩
    | (exfalso;lia)
    | trace_state
end Go.Sym
