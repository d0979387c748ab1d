/- How deep an expression is; an expression's text, parsed. -/
import Derived.Test.YtfdbdalnpdgfmaaGreatDoorK15
set_option linter.all false
set_option linter.unusedVariables false
set_option linter.unusedSimpArgs false
namespace Go.Sym
open Go Go.Proofs.Tryz
set_option maxRecDepth 100000
inductive NdB (m:Nat):Nd→Prop
 | mk {k:Int} {t:List UInt8} {n:Int} {l:List Nd} (h:l.length≤m) (ih:∀ a∈l,NdB m a):NdB m (.mk k t n l)
theorem NdB.len {m:Nat} {k:Int} {t:List UInt8} {n:Int} {l:List Nd} (h:NdB m (.mk k t n l)):l.length≤m:=by cases h;assumption
theorem NdB.arg {m:Nat} {k:Int} {t:List UInt8} {n:Int} {l:List Nd} (h:NdB m (.mk k t n l)):∀ a∈l,NdB m a:=by cases h;assumption
theorem NdB.nd (e:Xp):NdB 2 e.nd:=by
 induction e with
 | path w=>exact .mk (by simp) (by simp)
 | num n=>exact .mk (by simp) (by simp)
 | sum a b ih jh=>exact .mk (by simp) (fun x hx=>by simp at hx;rcases hx with rfl|rfl<;>assumption)
 | mul a b ih jh=>exact .mk (by simp) (fun x hx=>by simp at hx;rcases hx with rfl|rfl<;>assumption)
 | call w a ih=>exact .mk (by simp) (fun x hx=>by simp at hx;subst hx;assumption)
def findN (p:Nd→Bool) (l:List Nd):Int:=if l.any p=true then(l.findIdx p:Nat) else -1
theorem findN_at {p:Nd→Bool} {l:List Nd} {k:Nat} {x:Nd} (hx:l[k]?=some x) (hp:p x=true) (h:∀ (j:Nat) y,j<k→l[j]?=some y→p y=false):findN p l=k:=by
 have hlt:=(List.getElem?_eq_some_iff.1 hx).1
 rw[findN,if_pos (List.any_eq_true.2 ⟨x,List.mem_of_getElem? hx,hp⟩)]
 refine congrArg _ ((List.findIdx_eq hlt).2 ⟨by rw[(List.getElem?_eq_some_iff.1 hx).2];exact hp,fun j hj=>h j _ hj (by simp)⟩)
theorem findN_no {p:Nd→Bool} {l:List Nd} (h:∀ (j:Nat) y,j<l.length→l[j]?=some y→p y=false):findN p l=-1:=by
 rw[findN,if_neg]
 simp only [List.any_eq_true,not_exists,not_and]
 intro x hx
 obtain⟨j,hj,rfl⟩:=List.getElem_of_mem hx
 have:=h j l[j] hj (by simp)
 simp [this]
theorem findN_ge (p:Nd→Bool) (l:List Nd):(0≤findN p l ↔ l.any p=true):=by
 rw[findN]
 split
 ·rename_i h;simp [h]
 ·rename_i h;simp [h]
theorem deepF_fn {O:Opq} {k:Nat} {x:Nd} {v w:Int} (hv:v=(k:Int)+1) (hw:w=k) (h:Fn prog 41 [.agg (x.en O),.int .i64 w] [] [.bool (O.o (deepB k) x)] []) (hk:k≤100) :
  Fn prog 63 [.agg (x.en O),.ptr 0 0] [.box [.int .i64 v]] [.bool (O.o (deepB k) x)] [.box [.int .i64 v]]:=by
 have hw2:w=IntKind.i64.wrap (v-1):=by rw[wrap64 (by omega)];omega
 obtain⟨B,eB⟩:∃ B,B=O.o (deepB k) x:=⟨_,rfl⟩
 rw[← eB] at h ⊢
 obtain⟨kk,t,n,l⟩:=x
 clear eB
 refine go (fn:=Proofs.Tryz.f63) (n:=6) (rv:=[ResultVar.tmp 3]) rfl (by decide) rfl (by decide +kernel) rfl rfl (by simp) fun F L C=>?_
 cbv
 (repeat' first|(refine Named.at' w hw2 ?_;cbv)|(refine Na ?_ fun _ _=>?_;(focus lia);cbv)|(refine CallThen.mk _ _ (C.fn (h)) ?_;cbv)|(refine Nl fun _ _ hq=>?_;(try simp only [lenS] at hq);cbv)|(refine Nm fun _ _=>?_;cbv)|(refine Br.t ?_ ?_;(focus first|assumption|lia);cbv)|(refine Br.f ?_ ?_;(focus first|assumption|lia);cbv)|(refine Br.mk (fun _=>?_) (fun _=>?_)<;>cbv)|(refine Need.mk ?_ ?_;rotate_left;cbv)|(refine R0 ?_;cbv))
 all_goals first
  | exact⟨rfl,rfl,trivial⟩
  | trace_state
theorem indexN_fn {O:Opq} {k:Nat} {l:List Nd} {v:Int} (hl:l.length≤100000) (hf:∀ x∈l,Fn prog 63 [.agg (x.en O),.ptr 0 0] [.box [.int .i64 v]] [.bool (O.o (deepB k) x)] [.box [.int .i64 v]]) :
  Fn prog 86 [.sl false 0 false 4 (O.o Nds.enc l),.fn 63 [] [.ptr 0 0]] [.box [.int .i64 v]] [.int .i64 (O.o (findN (deepB k)) l)] [.box [.int .i64 v]]:=by
 have hlen:=Nds.en_len O l
 obtain⟨z,hz⟩:∃ z:Nat,z=0:=⟨_,rfl⟩
 obtain⟨N,hN⟩:∃ N:Nat,N=l.length:=⟨_,rfl⟩
 refine go (fn:=Proofs.Tryz.f86) (n:=17) (rv:=[ResultVar.tmp 4]) rfl (by decide) rfl (by decide +kernel) rfl rfl (by simp) fun F L C=>?_
 cbv
 (repeat' first|(refine Na ?_ fun _ _=>?_;(focus lia);cbv)|(refine Nl fun _ _ hq=>?_;(try simp only [lenS] at hq);cbv)|(refine Nm fun _ _=>?_;cbv)|(refine Br.t ?_ ?_;(focus first|assumption|lia);cbv)|(refine Br.f ?_ ?_;(focus first|assumption|lia);cbv)|(refine Br.mk (fun _=>?_) (fun _=>?_)<;>cbv)|(refine Need.mk ?_ ?_;rotate_left;cbv)|(refine R0 ?_;cbv))
 refine LoopThen.mk (C.loopAt (ι:=Nat) [(4,5),(8,18)] (fun k=>[(4,.int .i64 0),(8,.int .i64 k)]) (fun _=>[(0,.box [.int .i64 v])])
  (fun i=>i≤l.length∧∀ (j:Nat) x,j<i→l[j]?=some x→deepB k x=false) (fun i=>N-i) (by decide +kernel) (Start.mk z [] [] ⟨by omega,fun j x hj=>by omega⟩ (by cbv;(repeat' apply And.intro)<;>first|exact True.intro|exact WkR.refl _|rfl|lia)) ?_)
 intro i g
 cbv
 have g1:i≤l.length:=g.1
 have g2:=g.2
 clear g
 by_cases hk:i<l.length
 ·obtain⟨x,hx⟩:∃ x,l[i]?=some x:=⟨l[i],by simp [hk]⟩
  have hc:=hf x (List.mem_of_getElem? hx)
  have hyes:O.o (deepB k) x=true→O.o (findN (deepB k)) l=i:=fun e=>by rw[O.h] at e ⊢;exact findN_at hx e g2
  have hst:O.o (deepB k) x=false→∀ (j:Nat) y,j<i+1→l[j]?=some y→deepB k y=false:=fun h j y hj hy=>by
   by_cases ej:j=i
   ·subst ej;rw[hx] at hy;cases hy;rwa [O.h] at h
   ·exact g2 j y (by omega) hy
  obtain⟨Q,eQ⟩:∃ Q,Q=O.o (findN (deepB k)) l:=⟨_,rfl⟩
  obtain⟨B,eB⟩:∃ B,B=O.o (deepB k) x:=⟨_,rfl⟩
  rw[← eQ] at hyes ⊢
  rw[← eB] at hyes hst hc
  obtain⟨kk,t,n,la⟩:=x
  clear g2 eQ hf eB
  (repeat' first|(refine Na ?_ fun _ _=>?_;(focus lia);cbv)|(refine Ex.nd O hx ?_ ?_;(focus lia);cbv)|(refine CallThen.bool (C.fn (hc)) (fun _=>?_) (fun _=>?_)<;>cbv)|(refine Back.up [] [] ?_ ?_ fun _ _=>?_;rotate_left 2;cbv;refine And.intro ?_ ?_)|(refine Nl fun _ _ hq=>?_;(try simp only [lenS] at hq);cbv)|(refine Nm fun _ _=>?_;cbv)|(refine Br.t ?_ ?_;(focus first|assumption|lia);cbv)|(refine Br.f ?_ ?_;(focus first|assumption|lia);cbv)|(refine Br.mk (fun _=>?_) (fun _=>?_)<;>cbv)|(refine Need.mk ?_ ?_;rotate_left;cbv)|(refine R0 ?_;cbv))
  all_goals(repeat' apply And.intro)
  all_goals try first
   | exact True.intro
   | exact WkR.refl _
   | (clear hx hst hyes hc;lia)
  all_goals first
   | exact hst (by assumption)
   | (rw[hyes (by assumption)];clear hx hst hyes hc;lia)
   | trace_state
 ·have hno:O.o (findN (deepB k)) l=-1:=by rw[O.h];exact findN_no fun j x hj hx=>g2 j x (by omega) hx
  rw[hno]
  clear g2 hf
  (repeat' first|(refine Na ?_ fun _ _=>?_;(focus lia);cbv)|(refine Nl fun _ _ hq=>?_;(try simp only [lenS] at hq);cbv)|(refine Nm fun _ _=>?_;cbv)|(refine Br.t ?_ ?_;(focus first|assumption|lia);cbv)|(refine Br.f ?_ ?_;(focus first|assumption|lia);cbv)|(refine Br.mk (fun _=>?_) (fun _=>?_)<;>cbv)|(refine Need.mk ?_ ?_;rotate_left;cbv)|(refine R0 ?_;cbv))
  all_goals first
   | exact⟨rfl,trivial⟩
   | exact⟨rfl,rfl,trivial⟩
   | (exfalso;lia)
   | trace_state
theorem containsN_fn {O:Opq} {k:Nat} {l:List Nd} {v:Int} (h:Fn prog 86 [.sl false 0 false 4 (O.o Nds.enc l),.fn 63 [] [.ptr 0 0]] [.box [.int .i64 v]] [.int .i64 (O.o (findN (deepB k)) l)] [.box [.int .i64 v]]) :
  Fn prog 62 [.sl false 0 false 4 (O.o Nds.enc l),.fn 63 [] [.ptr 0 0]] [.box [.int .i64 v]] [.bool (O.o (fun l=>l.any (deepB k)) l)] [.box [.int .i64 v]]:=by
 have hi:(0≤O.o (findN (deepB k)) l ↔ O.o (fun l:List Nd=>l.any (deepB k)) l=true):=by rw[O.h,O.h];exact findN_ge _ l
 obtain⟨Q,eQ⟩:∃ Q,Q=O.o (findN (deepB k)) l:=⟨_,rfl⟩
 rw[← eQ] at h hi
 obtain⟨B,eB⟩:∃ Q,Q=O.o (fun l:List Nd=>l.any (deepB k)) l:=⟨_,rfl⟩
 rw[← eB] at hi ⊢
 clear eQ eB
 cases B
 all_goals
  refine go (fn:=Proofs.Tryz.f62) (n:=7) (rv:=[ResultVar.tmp 4]) rfl (by decide) rfl (by decide +kernel) rfl rfl (by simp) fun F L C=>?_
  cbv
  (repeat' first|(refine Na ?_ fun _ _=>?_;(focus lia);cbv)|(refine CallThen.mk _ _ (C.fn (h)) ?_;cbv)|(refine Nl fun _ _ hq=>?_;(try simp only [lenS] at hq);cbv)|(refine Nm fun _ _=>?_;cbv)|(refine Br.t ?_ ?_;(focus first|assumption|lia);cbv)|(refine Br.f ?_ ?_;(focus first|assumption|lia);cbv)|(refine Br.mk (fun _=>?_) (fun _=>?_)<;>cbv)|(refine Need.mk ?_ ?_;rotate_left;cbv)|(refine R0 ?_;cbv))
  all_goals first
   | exact⟨rfl,rfl,trivial⟩
   | (exfalso;simp at hi;clear h;lia)
   | trace_state
theorem edeep_fn (O:Opq):∀ (k:Nat),k≤100→∀ (x:Nd),NdB 100000 x→∀ v:Int,v=k→Fn prog 41 [.agg (x.en O),.int .i64 v] [] [.bool (O.o (deepB k) x)] []
 | 0,_,.mk kk t n l,_,v,hv=>by
  have hq:O.o (deepB 0) (.mk kk t n l)=true:=by rw[O.h];rfl
  rw[hq]
  refine go (fn:=Proofs.Tryz.f41) (n:=11) (rv:=[ResultVar.tmp 4]) rfl (by decide) rfl (by decide +kernel) rfl rfl (by simp) fun F L C=>?_
  cbv
  (repeat' first|(refine Na ?_ fun _ _=>?_;(focus lia);cbv)|(refine Nl fun _ _ hq=>?_;(try simp only [lenS] at hq);cbv)|(refine Nm fun _ _=>?_;cbv)|(refine Br.t ?_ ?_;(focus first|assumption|lia);cbv)|(refine Br.f ?_ ?_;(focus first|assumption|lia);cbv)|(refine Br.mk (fun _=>?_) (fun _=>?_)<;>cbv)|(refine Need.mk ?_ ?_;rotate_left;cbv)|(refine R0 ?_;cbv))
  all_goals first
   | exact⟨rfl,trivial⟩
   | (exfalso;lia)
   | trace_state
 | k+1,hk,.mk kk t n l,hB,v,hv=>by
  have hq:O.o (deepB (k+1)) (.mk kk t n l)=O.o (fun l:List Nd=>l.any (deepB k)) l:=by rw[O.h,O.h];rfl
  rw[hq]
  have hc:=containsN_fn (indexN_fn (O:=O) (k:=k) (v:=v) hB.len fun x hx=>deepF_fn (by omega) rfl (edeep_fn O k (by omega) x (hB.arg x hx) k rfl) (by omega))
  obtain⟨B,eB⟩:∃ Q,Q=O.o (fun l:List Nd=>l.any (deepB k)) l:=⟨_,rfl⟩
  rw[← eB] at hc ⊢
  clear eB hq hB
  refine go (fn:=Proofs.Tryz.f41) (n:=11) (rv:=[ResultVar.tmp 4]) rfl (by decide) rfl (by decide +kernel) rfl rfl (by simp) fun F L C=>?_
  cbv
  (repeat' first|(refine Na ?_ fun _ _=>?_;(focus lia);cbv)|(refine CallThen.mk _ _ (C.fn (hc)) ?_;cbv)|(refine Nl fun _ _ hq=>?_;(try simp only [lenS] at hq);cbv)|(refine Nm fun _ _=>?_;cbv)|(refine Br.t ?_ ?_;(focus first|assumption|lia);cbv)|(refine Br.f ?_ ?_;(focus first|assumption|lia);cbv)|(refine Br.mk (fun _=>?_) (fun _=>?_)<;>cbv)|(refine Need.mk ?_ ?_;rotate_left;cbv)|(refine R0 ?_;cbv))
  all_goals first
   | exact⟨rfl,trivial⟩
   | (exfalso;clear hc;lia)
   | trace_state
def parse0 (s:List UInt8):Nd×List UInt8×Bool:=sumD lexT 300 s
open Classical in
noncomputable def parseE (s:List UInt8):Int:=if 256<s.length then 3 else if ¬ (parse0 s).2=([],false) then 5 else if deepB 8 (parse0 s).1=true then 13 else 0
open Classical in
noncomputable def parseV (s:List UInt8):Nd:=if parseE s=0 then(parse0 s).1 else zeroN
theorem parse0_nd {s:List UInt8} (h:(parse0 s).2=([],false)):∃ e,Der lexT.toLex 2 s e∧(parse0 s).1=e.nd:=by
 have:sumD lexT 300 s=((parse0 s).1,[],false):=by rw[← h];rfl
 exact parse_sound this
theorem NdB.mono {m m':Nat} {x:Nd} (h:NdB m x) (hm:m≤m'):NdB m' x:=by
 induction h with
 | mk h k ih=>exact .mk (by omega) ih
theorem zeroN_en (O:Opq):zeroN.en O=[.int .i64 0,.str (O.o ofL []),.int .i64 0,.sl false 0 false 4 (O.o Nds.enc [])]:=rfl
set_option maxHeartbeats 1000000 in
theorem eparse_fn (O:Opq) (s:List UInt8) (hl:s.length≤4611686018427387904):Fn prog 26 [.str (O.o ofL s)] [] [.agg ((O.o parseV s).en O),.int .i64 (O.o parseE s)] []:=by
 have e0:O.o ofL []=ByteArray.empty:=by rw[O.h];rfl
 have e1:O.o Nds.enc []=[]:=Nds.nil O
 have hsz:(O.o ofL s).size=s.length:=by rw[O.h,size_ofL]
 obtain⟨L,hL⟩:∃ L:Nat,L=s.length:=⟨_,rfl⟩
 rw[← hL] at hsz
 have hzero:∀ {e:Int},e≠0→parseE s=e→O.o parseE s=e∧(O.o parseV s).en O=zeroN.en O:=fun {e} h0 h=>by
  rw[O.h,O.h];exact⟨h,by rw[parseV,if_neg (by rw[h];exact h0)]⟩
 by_cases h256:256<s.length
 ·obtain⟨q1,q2⟩:=hzero (e:=3) (by decide) (by rw[parseE,if_pos h256])
  rw[q1,q2,zeroN_en]
  obtain⟨S,hS⟩:∃ S,S=O.o ofL s:=⟨_,rfl⟩
  rw[← hS] at hsz ⊢
  clear hzero q1 q2
  refine go (fn:=Proofs.Tryz.f26) (n:=32) (rv:=[ResultVar.cell 2 50,ResultVar.tmp 3]) rfl (by decide) rfl (by decide +kernel) rfl rfl (by simp) fun F L C=>?_
  cbv
  (repeat' first|(refine Na ?_ fun _ _=>?_;(focus lia);cbv)|(refine Nl fun _ _ hq=>?_;(try simp only [lenS] at hq);cbv)|(refine Nm fun _ _=>?_;cbv)|(refine Br.t ?_ ?_;(focus first|assumption|lia);cbv)|(refine Br.f ?_ ?_;(focus first|assumption|lia);cbv)|(refine Br.mk (fun _=>?_) (fun _=>?_)<;>cbv)|(refine Need.mk ?_ ?_;rotate_left;cbv)|(refine R0 ?_;cbv))
  all_goals first
   | exact⟨e0,e1,trivial⟩
   | exact⟨e0.symm,e1,trivial⟩
   | (exfalso;lia)
   | trace_state
 obtain⟨⟨x,r,b⟩,hP⟩:∃ p,parse0 s=p:=⟨_,rfl⟩
 have ks:=(all_says O 300).2.2 s 0 x r b hP (by omega) (by omega) 0 rfl
 have hE:parseE s=if ¬ (r,b)=([],false) then 5 else if deepB 8 x=true then 13 else 0:=by
  rw[parseE,if_neg h256,hP]
 obtain⟨S,hS⟩:∃ S,S=O.o ofL s:=⟨_,rfl⟩
 rw[← hS] at hsz ks ⊢
 have hemp:O.o ofL r=ByteArray.empty ↔ r=[]:=by rw[O.h];exact ofL_emp
 have hL2:L≤256:=by omega
 by_cases hrb:(r,b)=([],false)
 ·simp only [Prod.mk.injEq] at hrb
  obtain⟨rfl,rfl⟩:=hrb
  rw[if_neg (by simp)] at hE
  obtain⟨e,_,he⟩:=parse0_nd (s:=s) (by rw[hP])
  rw[hP] at he
  have hB:NdB 100000 x:=by
   have he:x=e.nd:=he
   rw[he]
   exact(NdB.nd e).mono (by decide)
  have kd:=edeep_fn O 8 (by decide) x hB 8 rfl
  rw[e0] at ks
  cases hd:deepB 8 x with
  | true =>
   rw[hd,if_pos rfl] at hE
   obtain⟨q1,q2⟩:=hzero (by decide) hE
   rw[q1,q2,zeroN_en]
   rw[show O.o (deepB 8) x=true by rw[O.h];exact hd] at kd
   clear hzero q1 q2 hE hP he hB hd hemp
   obtain⟨k,t,n,l⟩:=x
   refine go (fn:=Proofs.Tryz.f26) (n:=32) (rv:=[ResultVar.cell 2 50,ResultVar.tmp 3]) rfl (by decide) rfl (by decide +kernel) rfl rfl (by simp) fun F L C=>?_
   cbv
   (repeat' first|(refine Na ?_ fun _ _=>?_;(focus lia);cbv)|(refine CallThen.mk _ _ (C.fn (ks)) ?_;cbv)|(refine CallThen.mk _ _ (C.fn (kd)) ?_;cbv)|(refine Nl fun _ _ hq=>?_;(try simp only [lenS] at hq);cbv)|(refine Nm fun _ _=>?_;cbv)|(refine Br.t ?_ ?_;(focus first|assumption|lia);cbv)|(refine Br.f ?_ ?_;(focus first|assumption|lia);cbv)|(refine Br.mk (fun _=>?_) (fun _=>?_)<;>cbv)|(refine Need.mk ?_ ?_;rotate_left;cbv)|(refine R0 ?_;cbv))
   all_goals first
    | exact⟨e0,e1,trivial⟩
    | exact⟨e0.symm,e1,trivial⟩
    | (exfalso;clear ks kd;lia)
    | (exfalso;simp at *;done)
    | trace_state
  | false =>
   rw[hd,if_neg (by simp)] at hE
   have q1:O.o parseE s=0:=by rw[O.h];exact hE
   have q2:(O.o parseV s).en O=x.en O:=by rw[O.h parseV,parseV,if_pos hE,hP]
   rw[q1,q2]
   rw[show O.o (deepB 8) x=false by rw[O.h];exact hd] at kd
   clear hzero q1 q2 hE hP he hB hd hemp
   obtain⟨k,t,n,l⟩:=x
   refine go (fn:=Proofs.Tryz.f26) (n:=32) (rv:=[ResultVar.cell 2 50,ResultVar.tmp 3]) rfl (by decide) rfl (by decide +kernel) rfl rfl (by simp) fun F L C=>?_
   cbv
   (repeat' first|(refine Na ?_ fun _ _=>?_;(focus lia);cbv)|(refine CallThen.mk _ _ (C.fn (ks)) ?_;cbv)|(refine CallThen.mk _ _ (C.fn (kd)) ?_;cbv)|(refine Nl fun _ _ hq=>?_;(try simp only [lenS] at hq);cbv)|(refine Nm fun _ _=>?_;cbv)|(refine Br.t ?_ ?_;(focus first|assumption|lia);cbv)|(refine Br.f ?_ ?_;(focus first|assumption|lia);cbv)|(refine Br.mk (fun _=>?_) (fun _=>?_)<;>cbv)|(refine Need.mk ?_ ?_;rotate_left;cbv)|(refine R0 ?_;cbv))
   all_goals first
    | exact⟨.refl _,trivial⟩
    | (exfalso;clear ks kd;lia)
    | (exfalso;simp at *;done)
    | trace_state
 ·rw[if_pos hrb] at hE
  obtain⟨q1,q2⟩:=hzero (by decide) hE
  rw[q1,q2,zeroN_en]
  have hrb2:b=true∨¬ O.o ofL r=ByteArray.empty:=by
   cases b with
   | true=>exact .inl rfl
   | false=>exact .inr fun e=>hrb (by rw[hemp.1 e])
  obtain⟨Rr,hRr⟩:∃ R,R=O.o ofL r:=⟨_,rfl⟩
  rw[← hRr] at hrb2 ks
  clear hzero q1 q2 hE hP hemp hrb hRr
  obtain⟨k,t,n,l⟩:=x
  cases b
  all_goals
   simp only [Bool.false_eq_true,false_or,true_or] at hrb2
   refine go (fn:=Proofs.Tryz.f26) (n:=32) (rv:=[ResultVar.cell 2 50,ResultVar.tmp 3]) rfl (by decide) rfl (by decide +kernel) rfl rfl (by simp) fun F L C=>?_
   cbv
   (repeat' first|(refine Na ?_ fun _ _=>?_;(focus lia);cbv)|(refine CallThen.mk _ _ (C.fn (ks)) ?_;cbv)|(refine Nl fun _ _ hq=>?_;(try simp only [lenS] at hq);cbv)|(refine Nm fun _ _=>?_;cbv)|(refine Br.t ?_ ?_;(focus first|assumption|lia);cbv)|(refine Br.f ?_ ?_;(focus first|assumption|lia);cbv)|(refine Br.mk (fun _=>?_) (fun _=>?_)<;>cbv)|(refine Need.mk ?_ ?_;rotate_left;cbv)|(refine R0 ?_;cbv))
   all_goals first
    | exact⟨e0,e1,trivial⟩
    | exact⟨e0.symm,e1,trivial⟩
    | (exfalso;clear ks;lia)
    | (exfalso;exact hrb2 (by assumption))
    | trace_state
end Go.Sym
