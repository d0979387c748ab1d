/- How deep an expression is; an expression's text, parsed. -/
import Derived.Test.YtjlefaabcalkkaaGreatDoorK8
import Derived.Test.YtjlefaabcalkkaaGreatDoorK10
import Derived.Test.YtjlefaabcalkkaaGreatDoorK11
set_option linter.all false
set_option linter.unusedVariables false
set_option linter.unusedSimpArgs false
namespace Go.Sym
open Go Go.Proofs.Tryz
set_option maxRecDepth 100000
inductive NdB (m:Nat):Nd→Prop
 | mk {k:Int} {t:List UInt8} {n:Int} {l:List Nd} (h:l.length≤m) (ih:∀ a∈l,NdB m a):NdB m (.mk k t n l)
theorem NdB.len {m:Nat} {k:Int} {t:List UInt8} {n:Int} {l:List Nd} (h:NdB m (.mk k t n l)):l.length≤m:=by cases h;assumption
theorem NdB.arg {m:Nat} {k:Int} {t:List UInt8} {n:Int} {l:List Nd} (h:NdB m (.mk k t n l)):∀ a∈l,NdB m a:=by cases h;assumption
theorem NdB.nd (e:Xp):NdB 2 e.nd:=by
 induction e with
 | path w=>exact .mk (by simp) (by simp)
 | num n=>exact .mk (by simp) (by simp)
 | sum a b ih jh=>exact .mk (by simp) (fun x hx=>by simp at hx;rcases hx with rfl|rfl<;>assumption)
 | mul a b ih jh=>exact .mk (by simp) (fun x hx=>by simp at hx;rcases hx with rfl|rfl<;>assumption)
 | call w a ih=>exact .mk (by simp) (fun x hx=>by simp at hx;subst hx;assumption)
def findN (p:Nd→Bool) (l:List Nd):Int:=if l.any p=true then(l.findIdx p:Nat) else -1
theorem findN_at {p:Nd→Bool} {l:List Nd} {k:Nat} {x:Nd} (hx:l[k]?=some x) (hp:p x=true) (h:∀ (j:Nat) y,j<k→l[j]?=some y→p y=false):findN p l=k:=by
 have hlt:=(List.getElem?_eq_some_iff.1 hx).1
 rw[findN,if_pos (List.any_eq_true.2 ⟨x,List.mem_of_getElem? hx,hp⟩)]
 refine congrArg _ ((List.findIdx_eq hlt).2 ⟨by rw[(List.getElem?_eq_some_iff.1 hx).2];exact hp,fun j hj=>h j _ hj (by simp)⟩)
theorem findN_no {p:Nd→Bool} {l:List Nd} (h:∀ (j:Nat) y,j<l.length→l[j]?=some y→p y=false):findN p l=-1:=by
 rw[findN,if_neg]
 simp only [List.any_eq_true,not_exists,not_and]
 intro x hx
 obtain⟨j,hj,rfl⟩:=List.getElem_of_mem hx
 have:=h j l[j] hj (by simp)
 simp [this]
theorem findN_ge (p:Nd→Bool) (l:List Nd):(0≤findN p l ↔ l.any p=true):=by
 rw[findN]
 split
 ·rename_i h;simp [h]
 ·rename_i h;simp [h]
theorem deepF_fn {O:Opq} {k:Nat} {x:Nd} {v w:Int} (hv:v=(k:Int)+1) (hw:w=k) (h:Fn prog 75 [.agg (x.en O),.int .i64 w] [] [.bool (O.o (deepB k) x)] []) (hk:k≤100) :
  Fn prog 107 [.agg (x.en O),.ptr 0 0] [.box [.int .i64 v]] [.bool (O.o (deepB k) x)] [.box [.int .i64 v]]:=by
 have hw2:w=IntKind.i64.wrap (v-1):=by rw[wrap64 (by omega)];omega
 obtain⟨B,eB⟩:∃ B,B=O.o (deepB k) x:=⟨_,rfl⟩
 rw[← eB] at h ⊢
 obtain⟨kk,t,n,l⟩:=x
 clear eB
 refine go (fn:=Proofs.Tryz.f107) (n:=6) (rv:=[ResultVar.tmp 3]) rfl (by decide) rfl (by decide +kernel) rfl rfl (by simp) fun F L C=>?_
 cbv
 (repeat' first|(refine Named.at' w hw2 ?_;cbv)|(refine CallThen.mk _ _ (C.fn (h)) ?_;cbv)|(refine R0 ?_;cbv))
 all_goals first
  | exact⟨rfl,rfl,trivial⟩
  | trace_state
theorem indexN_fn {O:Opq} {k:Nat} {l:List Nd} {v:Int} (hl:l.length≤100000) (hf:∀ x∈l,Fn prog 107 [.agg (x.en O),.ptr 0 0] [.box [.int .i64 v]] [.bool (O.o (deepB k) x)] [.box [.int .i64 v]]) :
  Fn prog 140 [.sl false 0 false 4 (O.o Nds.enc l),.fn 107 [] [.ptr 0 0]] [.box [.int .i64 v]] [.int .i64 (O.o (findN (deepB k)) l)] [.box [.int .i64 v]]:=by
 have hlen:=Nds.en_len O l
 obtain⟨z,hz⟩:∃ z:Nat,z=0:=⟨_,rfl⟩
 obtain⟨N,hN⟩:∃ N:Nat,N=l.length:=⟨_,rfl⟩
 refine go (fn:=Proofs.Tryz.f140) (n:=17) (rv:=[ResultVar.tmp 4]) rfl (by decide) rfl (by decide +kernel) rfl rfl (by simp) fun F L C=>?_
 cbv
 (repeat' first|(refine Nm fun _ _=>?_;cbv))
 refine LoopThen.mk (C.loopAt (ι:=Nat) [(4,5),(8,18)] (fun k=>[(4,.int .i64 0),(8,.int .i64 k)]) (fun _=>[(0,.box [.int .i64 v])])
  (fun i=>i≤l.length∧∀ (j:Nat) x,j<i→l[j]?=some x→deepB k x=false) (fun i=>N-i) (by decide +kernel) (Start.mk z [] [] ⟨by omega,fun j x hj=>by omega⟩ (by cbv;(repeat' apply And.intro)<;>first|exact True.intro|exact WkR.refl _|rfl|lia)) ?_)
 intro i g
 cbv
 have g1:i≤l.length:=g.1
 have g2:=g.2
 clear g
 by_cases hk:i<l.length
 ·obtain⟨x,hx⟩:∃ x,l[i]?=some x:=⟨l[i],by simp [hk]⟩
  have hc:=hf x (List.mem_of_getElem? hx)
  have hyes:O.o (deepB k) x=true→O.o (findN (deepB k)) l=i:=fun e=>by rw[O.h] at e ⊢;exact findN_at hx e g2
  have hst:O.o (deepB k) x=false→∀ (j:Nat) y,j<i+1→l[j]?=some y→deepB k y=false:=fun h j y hj hy=>by
   by_cases ej:j=i
   ·subst ej;rw[hx] at hy;cases hy;rwa [O.h] at h
   ·exact g2 j y (by omega) hy
  obtain⟨Q,eQ⟩:∃ Q,Q=O.o (findN (deepB k)) l:=⟨_,rfl⟩
  obtain⟨B,eB⟩:∃ B,B=O.o (deepB k) x:=⟨_,rfl⟩
  rw[← eQ] at hyes ⊢
  rw[← eB] at hyes hst hc
  obtain⟨kk,t,n,la⟩:=x
  clear g2 eQ hf eB
  (repeat' first|(refine Na ?_ fun _ _=>?_;(focus lia);cbv)|(refine Ex.nd O hx ?_ ?_;(focus lia);cbv)|(refine CallThen.bool (C.fn (hc)) (fun _=>?_) (fun _=>?_)<;>cbv)|(refine Back.up [] [] ?_ ?_ fun _ _=>?_;rotate_left 2;cbv;refine And.intro ?_ ?_)|(refine Br.t ?_ ?_;(focus first|assumption|lia);cbv)|(refine R0 ?_;cbv))
  all_goals(repeat' apply And.intro)
  all_goals try first
   | exact True.intro
   | exact WkR.refl _
   | (clear hx hst hyes hc;lia)
  all_goals first
   | exact hst (by assumption)
   | (rw[hyes (by assumption)];clear hx hst hyes hc;lia)
   | trace_state
 ·have hno:O.o (findN (deepB k)) l=-1:=by rw[O.h];exact findN_no fun j x hj hx=>g2 j x (by omega) hx
  rw[hno]
  clear g2 hf
  (repeat' first|(refine Br.f ?_ ?_;(focus first|assumption|lia);cbv)|(refine R0 ?_;cbv))
  all_goals first
   | exact⟨rfl,trivial⟩
   | exact⟨rfl,rfl,trivial⟩
   | (exfalso;lia)
   | trace_state
theorem containsN_fn {O:Opq} {k:Nat} {l:List Nd} {v:Int} (h:Fn prog 140 [.sl false 0 false 4 (O.o Nds.enc l),.fn 107 [] [.ptr 0 0]] [.box [.int .i64 v]] [.int .i64 (O.o (findN (deepB k)) l)] [.box [.int .i64 v]]) :
  Fn prog 106 [.sl false 0 false 4 (O.o Nds.enc l),.fn 107 [] [.ptr 0 0]] [.box [.int .i64 v]] [.bool (O.o (fun l=>l.any (deepB k)) l)] [.box [.int .i64 v]]:=by
 have hi:(0≤O.o (findN (deepB k)) l ↔ O.o (fun l:List Nd=>l.any (deepB k)) l=true):=by rw[O.h,O.h];exact findN_ge _ l
 obtain⟨Q,eQ⟩:∃ Q,Q=O.o (findN (deepB k)) l:=⟨_,rfl⟩
 rw[← eQ] at h hi
 obtain⟨B,eB⟩:∃ Q,Q=O.o (fun l:List Nd=>l.any (deepB k)) l:=⟨_,rfl⟩
 rw[← eB] at hi ⊢
 clear eQ eB
 cases B
 all_goals
  refine go (fn:=Proofs.Tryz.f106) (n:=7) (rv:=[ResultVar.tmp 4]) rfl (by decide) rfl (by decide +kernel) rfl rfl (by simp) fun F L C=>?_
  cbv
  (repeat' first|(refine CallThen.mk _ _ (C.fn (h)) ?_;cbv)|(refine Br.t ?_ ?_;(focus first|assumption|lia);cbv)|(refine Br.f ?_ ?_;(focus first|assumption|lia);cbv)|(refine R0 ?_;cbv))
  all_goals first
   | exact⟨rfl,rfl,trivial⟩
   | (exfalso;simp at hi;clear h;lia)
   | trace_state
theorem edeep_fn (O:Opq):∀ (k:Nat),k≤100→∀ (x:Nd),NdB 100000 x→∀ v:Int,v=k→Fn prog 75 [.agg (x.en O),.int .i64 v] [] [.bool (O.o (deepB k) x)] []
 | 0,_,.mk kk t n l,_,v,hv=>by
  have hq:O.o (deepB 0) (.mk kk t n l)=true:=by rw[O.h];rfl
  rw[hq]
  refine go (fn:=Proofs.Tryz.f75) (n:=11) (rv:=[ResultVar.tmp 4]) rfl (by decide) rfl (by decide +kernel) rfl rfl (by simp) fun F L C=>?_
  cbv
  (repeat' first|(refine Br.t ?_ ?_;(focus first|assumption|lia);cbv)|(refine R0 ?_;cbv))
  all_goals first
   | exact⟨rfl,trivial⟩
   | (exfalso;lia)
   | trace_state
 | k+1,hk,.mk kk t n l,hB,v,hv=>by
  have hq:O.o (deepB (k+1)) (.mk kk t n l)=O.o (fun l:List Nd=>l.any (deepB k)) l:=by rw[O.h,O.h];rfl
  rw[hq]
  have hc:=containsN_fn (indexN_fn (O:=O) (k:=k) (v:=v) hB.len fun x hx=>deepF_fn (by omega) rfl (edeep_fn O k (by omega) x (hB.arg x hx) k rfl) (by omega))
  obtain⟨B,eB⟩:∃ Q,Q=O.o (fun l:List Nd=>l.any (deepB k)) l:=⟨_,rfl⟩
  rw[← eB] at hc ⊢
  clear eB hq hB
  refine go (fn:=Proofs.Tryz.f75) (n:=11) (rv:=[ResultVar.tmp 4]) rfl (by decide) rfl (by decide +kernel) rfl rfl (by simp) fun F L C=>?_
  cbv
  (repeat' first|(refine CallThen.mk _ _ (C.fn (hc)) ?_;cbv)|(refine Br.f ?_ ?_;(focus first|assumption|lia);cbv)|(refine R0 ?_;cbv))
  all_goals first
   | exact⟨rfl,trivial⟩
   | (exfalso;clear hc;lia)
   | trace_state
def parse0 (s:List UInt8):Nd×List UInt8×Bool:=sumD lexT 300 s
open Classical in
noncomputable def parseE (s:List UInt8):Int:=if 256<s.length then 3 else if ¬ (parse0 s).2=([],false) then 5 else if deepB 8 (parse0 s).1=true then 13 else 0
open Classical in
noncomputable def parseV (s:List UInt8):Nd:=if parseE s=0 then(parse0 s).1 else zeroN
theorem parse0_nd {s:List UInt8} (h:(parse0 s).2=([],false)):∃ e,Der lexT.toLex 2 s e∧(parse0 s).1=e.nd:=by
 have:sumD lexT 300 s=((parse0 s).1,[],false):=by rw[← h];rfl
 exact parse_sound this
theorem NdB.mono {m m':Nat} {x:Nd} (h:NdB m x) (hm:m≤m'):NdB m' x:=by
 induction h with
 | mk h k ih=>exact .mk (by omega) ih
theorem zeroN_en (O:Opq):zeroN.en O=[.int .i64 0,.str (O.o ofL []),.int .i64 0,.sl false 0 false 4 (O.o Nds.enc [])]:=rfl
set_option maxHeartbeats 1000000 in
theorem eparse_fn (O:Opq) (s:List UInt8) (hl:s.length≤4611686018427387904):Fn prog 54 [.str (O.o ofL s)] [] [.agg ((O.o parseV s).en O),.int .i64 (O.o parseE s)] []:=by
 have e0:O.o ofL []=ByteArray.empty:=by rw[O.h];rfl
 have e1:O.o Nds.enc []=[]:=Nds.nil O
 have hsz:(O.o ofL s).size=s.length:=by rw[O.h,size_ofL]
 obtain⟨L,hL⟩:∃ L:Nat,L=s.length:=⟨_,rfl⟩
 rw[← hL] at hsz
 have hzero:∀ {e:Int},e≠0→parseE s=e→O.o parseE s=e∧(O.o parseV s).en O=zeroN.en O:=fun {e} h0 h=>by
  rw[O.h,O.h];exact⟨h,by rw[parseV,if_neg (by rw[h];exact h0)]⟩
 by_cases h256:256<s.length
 ·obtain⟨q1,q2⟩:=hzero (e:=3) (by decide) (by rw[parseE,if_pos h256])
  rw[q1,q2,zeroN_en]
  obtain⟨S,hS⟩:∃ S,S=O.o ofL s:=⟨_,rfl⟩
  rw[← hS] at hsz ⊢
  clear hzero q1 q2
  refine go (fn:=Proofs.Tryz.f54) (n:=32) (rv:=[ResultVar.cell 2 103,ResultVar.tmp 3]) rfl (by decide) rfl (by decide +kernel) rfl rfl (by simp) fun F L C=>?_
  cbv
  (repeat' first|(refine Nm fun _ _=>?_;cbv)|(refine Br.t ?_ ?_;(focus first|assumption|lia);cbv)|(refine R0 ?_;cbv))
  all_goals first
   | exact⟨e0,e1,trivial⟩
   | exact⟨e0.symm,e1,trivial⟩
   | (exfalso;lia)
   | trace_state
 obtain⟨⟨x,r,b⟩,hP⟩:∃ p,parse0 s=p:=⟨_,rfl⟩
 have ks:=(all_says O 300).2.2 s 0 x r b hP (by omega) (by omega) 0 rfl
 have hE:parseE s=if ¬ (r,b)=([],false) then 5 else if deepB 8 x=true then 13 else 0:=by
  rw[parseE,if_neg h256,hP]
 obtain⟨S,hS⟩:∃ S,S=O.o ofL s:=⟨_,rfl⟩
 rw[← hS] at hsz ks ⊢
 have hemp:O.o ofL r=ByteArray.empty ↔ r=[]:=by rw[O.h];exact ofL_emp
 have hL2:L≤256:=by omega
 by_cases hrb:(r,b)=([],false)
 ·simp only [Prod.mk.injEq] at hrb
  obtain⟨rfl,rfl⟩:=hrb
  rw[if_neg (by simp)] at hE
  obtain⟨e,_,he⟩:=parse0_nd (s:=s) (by rw[hP])
  rw[hP] at he
  have hB:NdB 100000 x:=by
   have he:x=e.nd:=he
   rw[he]
   exact(NdB.nd e).mono (by decide)
  have kd:=edeep_fn O 8 (by decide) x hB 8 rfl
  rw[e0] at ks
  cases hd:deepB 8 x with
  | true =>
   rw[hd,if_pos rfl] at hE
   obtain⟨q1,q2⟩:=hzero (by decide) hE
   rw[q1,q2,zeroN_en]
   rw[show O.o (deepB 8) x=true by rw[O.h];exact hd] at kd
   clear hzero q1 q2 hE hP he hB hd hemp
   obtain⟨k,t,n,l⟩:=x
   refine go (fn:=Proofs.Tryz.f54) (n:=32) (rv:=[ResultVar.cell 2 103,ResultVar.tmp 3]) rfl (by decide) rfl (by decide +kernel) rfl rfl (by simp) fun F L C=>?_
   cbv
   (repeat' first|(refine CallThen.mk _ _ (C.fn (ks)) ?_;cbv)|(refine CallThen.mk _ _ (C.fn (kd)) ?_;cbv)|(refine Nm fun _ _=>?_;cbv)|(refine Br.t ?_ ?_;(focus first|assumption|lia);cbv)|(refine Br.f ?_ ?_;(focus first|assumption|lia);cbv)|(refine R0 ?_;cbv))
   all_goals first
    | exact⟨e0,e1,trivial⟩
    | exact⟨e0.symm,e1,trivial⟩
    | (exfalso;clear ks kd;lia)
    | (exfalso;simp at *;done)
    | trace_state
  | false =>
   rw[hd,if_neg (by simp)] at hE
   have q1:O.o parseE s=0:=by rw[O.h];exact hE
   have q2:(O.o parseV s).en O=x.en O:=by rw[O.h parseV,parseV,if_pos hE,hP]
   rw[q1,q2]
   rw[show O.o (deepB 8) x=false by rw[O.h];exact hd] at kd
   clear hzero q1 q2 hE hP he hB hd hemp
   obtain⟨k,t,n,l⟩:=x
   refine go (fn:=Proofs.Tryz.f54) (n:=32) (rv:=[ResultVar.cell 2 103,ResultVar.tmp 3]) rfl (by decide) rfl (by decide +kernel) rfl rfl (by simp) fun F L C=>?_
   cbv
   (repeat' first|(refine CallThen.mk _ _ (C.fn (ks)) ?_;cbv)|(refine CallThen.mk _ _ (C.fn (kd)) ?_;cbv)|(refine Nm fun _ _=>?_;cbv)|(refine Br.t ?_ ?_;(focus first|assumption|lia);cbv)|(refine Br.f ?_ ?_;(focus first|assumption|lia);cbv)|(refine R0 ?_;cbv))
   all_goals first
    | exact⟨.refl _,trivial⟩
    | (exfalso;clear ks kd;lia)
    | (exfalso;simp at *;done)
    | trace_state
 ·rw[if_pos hrb] at hE
  obtain⟨q1,q2⟩:=hzero (by decide) hE
  rw[q1,q2,zeroN_en]
  have hrb2:b=true∨¬ O.o ofL r=ByteArray.empty:=by
   cases b with
   | true=>exact .inl rfl
   | false=>exact .inr fun e=>hrb (by rw[hemp.1 e])
  obtain⟨Rr,hRr⟩:∃ R,R=O.o ofL r:=⟨_,rfl⟩
  rw[← hRr] at hrb2 ks
  clear hzero q1 q2 hE hP hemp hrb hRr
  obtain⟨k,t,n,l⟩:=x
  cases b
  all_goals
   simp only [Bool.false_eq_true,false_or,true_or] at hrb2
   refine go (fn:=Proofs.Tryz.f54) (n:=32) (rv:=[ResultVar.cell 2 103,ResultVar.tmp 3]) rfl (by decide) rfl (by decide +kernel) rfl rfl (by simp) fun F L C=>?_
   cbv
   (repeat' first|(refine CallThen.mk _ _ (C.fn (ks)) ?_;cbv)|(refine Nm fun _ _=>?_;cbv)|(refine Br.f ?_ ?_;(focus first|assumption|lia);cbv)|(refine R0 ?_;cbv))
   all_goals first
    | exact⟨e0,e1,trivial⟩
    | exact⟨e0.symm,e1,trivial⟩
    | (exfalso;clear ks;lia)
    | (exfalso;exact hrb2 (by assumption))
    | trace_state
theorem ok_gOk {v:Val} (h:v.Ok):gOk v.re v.im=true:=by
 rcases val_cases h with ⟨n,rfl,_⟩ | ⟨x,y,rfl,hp⟩ | ⟨s,rfl,_⟩
 ·exact(by decide:gOk 0 0=true)
 ·exact hp
 ·exact(by decide:gOk 0 0=true)
theorem ok_text {v:Val} (h:v.Ok):v.text.size≤256:=by
 rcases val_cases h with ⟨n,rfl,_⟩ | ⟨x,y,rfl,hp⟩ | ⟨s,rfl,hs⟩
 ·exact(by decide:ByteArray.empty.size≤256)
 ·exact(by decide:ByteArray.empty.size≤256)
 ·exact hs
theorem name_cases {w:List UInt8} (h:nameL w=true):w=nNorm∨w=nConj∨w=nTurn∨w=nLow∨w=nHead:=by
 unfold nameL at h
 simp only [Bool.or_eq_true,beq_iff_eq] at h
 unfold nNorm nConj nTurn nLow nHead
 rcases h with (((h|h)|h)|h)|h<;>simp [h]
theorem call_all {w:List UInt8} (hw:nameL w=true) {v:Val} (hv:v.Ok):∃ r B,Fn prog 143 [.str (ofL w),.agg v.enc] [] [.agg (Val.enc r),.bool B] []∧okV (callO w v)=okBv B r:=by
 have hg:=ok_gOk hv
 have ht:v.text.size≤1000000:=Nat.le_trans (ok_text hv) (by decide)
 have hk2:v.kind=3→¬ v.kind=2:=fun h=>by omega
 obtain⟨k,n,t,x,y⟩:=v
 replace hg:gOk x y=true:=hg
 replace ht:n.natAbs=n.natAbs∧(⟨k,n,t,x,y⟩:Val).text.size≤1000000:=⟨rfl,ht⟩
 rcases name_cases hw with rfl|rfl|rfl|rfl|rfl
 ·by_cases hk:k=3
  ·exact⟨_,_,call_normT hg rfl hk,okV_is (by subst hk;rfl)⟩
  ·exact⟨_,_,call_normF hg rfl hk,okV_not (by
    have:callO nNorm ⟨k,n,t,x,y⟩=none:=by
     simp only [callO,if_neg hk,show ¬ nNorm=nLow by decide,show ¬ nNorm=nHead by decide,if_false];split<;>rfl
    rw[this];rfl)⟩
 ·by_cases hk:k=3
  ·exact⟨_,_,call_conjT hg rfl hk,okV_is (by subst hk;rfl)⟩
  ·exact⟨_,_,call_conjF hg rfl hk,okV_not (by
    have:callO nConj ⟨k,n,t,x,y⟩=none:=by
     simp only [callO,if_neg hk,show ¬ nConj=nLow by decide,show ¬ nConj=nHead by decide,if_false];split<;>rfl
    rw[this];rfl)⟩
 ·by_cases hk:k=3
  ·exact⟨_,_,call_turnT hg rfl hk,okV_is (by subst hk;rfl)⟩
  ·exact⟨_,_,call_turnF hg rfl hk,okV_not (by
    have:callO nTurn ⟨k,n,t,x,y⟩=none:=by
     simp only [callO,if_neg hk,show ¬ nTurn=nLow by decide,show ¬ nTurn=nHead by decide,if_false];split<;>rfl
    rw[this];rfl)⟩
 ·by_cases hk:k=2
  ·exact⟨_,_,call_lowT rfl hk ht.2,okV_is (by subst hk;rfl)⟩
  ·exact⟨_,_,call_lowF rfl hk ht.2,okV_not (by
    have:callO nLow ⟨k,n,t,x,y⟩=none:=by
     simp only [callO,show ¬ nLow=nNorm by decide,show ¬ nLow=nConj by decide,show ¬ nLow=nTurn by decide,if_false,if_neg hk];split<;>rfl
    rw[this];rfl)⟩
 ·by_cases hk:k=2
  ·exact⟨_,_,call_headT rfl hk ht.2,okV_is (by subst hk;rfl)⟩
  ·exact⟨_,_,call_headF rfl hk ht.2,okV_not (by
    have:callO nHead ⟨k,n,t,x,y⟩=none:=by
     simp only [callO,show ¬ nHead=nNorm by decide,show ¬ nHead=nConj by decide,show ¬ nHead=nTurn by decide,if_false,if_neg hk];split<;>rfl
    rw[this];rfl)⟩
theorem made_args {k:Int} {t:List UInt8} {n:Int} {l:List Nd} (h:madeB (.mk k t n l)=true):(k=1∧l=[])∨(k=2∧l=[])∨((k=3∨k=4)∧∃ a b,l=[a,b])∨(k=5∧nameL t=true∧∃ a,l=[a]):=by
 change (if k=1 then decide (n=0) && l.isEmpty && pathL t && !plainL t
  else if k=2 then decide (0≤n∧n<1000000000000000) && l.isEmpty && t.isEmpty
  else if k=3∨k=4 then decide (n=0) && decide (l.length=2) && t.isEmpty
  else if k=5 then decide (n=0) && decide (l.length=1) && nameL t
  else false)=true at h
 by_cases e1:k=1
 ·rw[if_pos e1] at h
  simp only [Bool.and_eq_true] at h
  exact .inl ⟨e1,List.isEmpty_iff.1 h.1.1.2⟩
 rw[if_neg e1] at h
 by_cases e2:k=2
 ·rw[if_pos e2] at h
  simp only [Bool.and_eq_true] at h
  exact .inr (.inl ⟨e2,List.isEmpty_iff.1 h.1.2⟩)
 rw[if_neg e2] at h
 by_cases e3:k=3∨k=4
 ·rw[if_pos e3] at h
  simp only [Bool.and_eq_true,decide_eq_true_eq] at h
  obtain⟨a,b,hl⟩:∃ a b,l=[a,b]:=match l,h.1.2 with
   | [a,b],_=>⟨a,b,rfl⟩
  exact .inr (.inr (.inl ⟨e3,a,b,hl⟩))
 rw[if_neg e3] at h
 by_cases e5:k=5
 ·rw[if_pos e5] at h
  simp only [Bool.and_eq_true,decide_eq_true_eq] at h
  obtain⟨a,hl⟩:=List.length_eq_one_iff.1 h.1.2
  exact .inr (.inr (.inr ⟨e5,h.2,a,hl⟩))
 ·rw[if_neg e5] at h
  cases h
theorem val_no {d:Doc} {x:Nd} (h:valO d x=none):valV d x=zeroV∧valB d x=false:=by rw[valV,valB,h];exact⟨rfl,rfl⟩
theorem val_yes {d:Doc} {x:Nd} {v:Val} (h:valO d x=some v):valV d x=v∧valB d x=true:=by rw[valV,valB,h];exact⟨rfl,rfl⟩
theorem rcheck_ok {v:Val} (h:v.Ok):Fn prog 66 [.agg v.enc] [] [.int .i64 0] []:=by
 have k:=rcheck_fn Opq.id v
 rwa [Opq.id.h,Val.err_ok.2 h] at k
theorem rcheck_bad {v:Val} (h:¬ v.Ok):∃ e,e≠0∧Fn prog 66 [.agg v.enc] [] [.int .i64 e] []:=by
 have k:=rcheck_fn Opq.id v
 rw[Opq.id.h] at k
 exact⟨_,fun q=>h (Val.err_ok.1 q),k⟩
theorem valueX_fn (O:Opq) (d:Doc) (hd:d.length≤1099511627776) {x:Nd} (h:Made x):Fn prog 109 [.agg (x.en O),.sl false 0 false 6 (O.o Doc.enc d)] [] [.agg (Val.enc (O.o (valV d) x)),.bool (O.o (valB d) x)] []:=by
 induction h with
 | @mk x hm hk ih =>
 obtain⟨k,t,n,l⟩:=x
 obtain⟨Q,hQ⟩:∃ Q,Q=valV d (.mk k t n l):=⟨_,rfl⟩
 obtain⟨T,hT⟩:∃ T,T=valB d (.mk k t n l):=⟨_,rfl⟩
 rw[O.h (valV d),O.h (valB d),← hQ,← hT]
 have hlen:=Nds.en_len O l
 obtain⟨N,hN⟩:∃ N:Nat,N=l.length:=⟨_,rfl⟩
 have hma:=made_args hm
 have hN2:N≤2:=by
  rw[hN]
  rcases hma with ⟨_,rfl⟩ | ⟨_,rfl⟩ | ⟨_,a,b,rfl⟩ | ⟨_,_,a,rfl⟩<;>simp
 obtain⟨R,hR⟩:∃ R:Nat→List (List PV),R=fun i=>Vals.enc (valsF d l i):=⟨_,rfl⟩
 have hRl:∀ i,i≤N→valsO d (l.take i)=some (valsF d l i)→(R i).length=i:=fun i hi h=>by
  rw[hR];show(Vals.enc _).length=i
  rw[Vals.enc_len,valsO_len h,List.length_take];omega
 have hRs:∀ (i:Nat) a v,l[i]?=some a→valsO d (l.take i)=some (valsF d l i)→valO d a=some v→R (i+1)=R i++[v.enc]:=fun i a v h1 h2 h3=>by
  rw[hR];show Vals.enc _=Vals.enc _++_
  rw[(valsF_succ h1 h2 h3).2,Vals.enc,Vals.enc,List.map_append];rfl
 have hR0:R 0=[]:=by rw[hR];show Vals.enc _=_;rw[(valsF_zero d l).1];rfl
 obtain⟨z,hz⟩:∃ z:Nat,z=0:=⟨_,rfl⟩
 have hRz:R z=[]:=by rw[hz];exact hR0
 have h0:valsO d (l.take z)=some (valsF d l z):=by rw[hz];exact(valsF_zero d l).2
 refine go (fn:=Proofs.Tryz.f109) (n:=78) (rv:=[ResultVar.cell 4 92,ResultVar.tmp 5]) rfl (by decide) rfl (by decide +kernel) rfl rfl (by simp) fun F L C=>?_
 cbv
 (repeat' first|(refine Nm fun _ _=>?_;cbv))
 refine LoopThen.mk (C.loopAt (ι:=Nat) [(5,6),(8,10),(14,31)] (fun i=>[(6,.ref 50),(14,.int .i64 i)]) (fun i=>[(50,.arr 0 none 5 (R i)),(256,.box [.int .i64 k,.str (O.o ofL t),.int .i64 n,.sl false 0 false 4 (O.o Nds.enc l)]),(384,.box [.int .i64 0,.int .i64 0,.str ByteArray.empty,.int .i64 0,.int .i64 0])])
  (fun i=>i≤N∧valsO d (l.take i)=some (valsF d l i)) (fun i=>N-i) (by decide +kernel) (Start.mk z [(50,.nil 5)] [] ⟨by omega,h0⟩ ?_) ?_)
 ·clear hRs hRl ih hk hm hQ hT
  cbv
  (repeat' apply And.intro)<;>first|exact True.intro|exact WkR.refl _|rfl|exact hRz|(clear hRz h0;lia)|trace_state
 intro i g
 cbv
 have g1:i≤N:=g.1
 have g2:valsO d (l.take i)=some (valsF d l i):=g.2
 clear g
 clear hRz h0 hR0
 by_cases hi:i<N
 ·obtain⟨a,ha⟩:∃ a,l[i]?=some a:=⟨l[i]'(by omega),List.getElem?_eq_getElem (by omega)⟩
  have hc:=ih a (List.mem_of_getElem? ha)
  have hRi:=hRl i g1 g2
  cases hva:valO d a with
  | none =>
   obtain⟨e1,e2⟩:=val_no hva
   rw[O.h (valV d),O.h (valB d),e1,e2] at hc
   have hx0:valO d (.mk k t n l)=none:=by rw[valO,valsO_take_none ha hva]
   obtain⟨e1,e2⟩:=val_no hx0
   rw[← hQ] at e1;rw[← hT] at e2
   subst e1;subst e2
   clear hQ hT hRs hRl ih hk hm hx0 hva g2 hma hR
   obtain⟨ak,at',an,al⟩:=a
   (repeat' first|(refine Ex.nd O ha ?_ ?_;(focus lia);cbv)|(refine CallThen.mk _ _ (C.fn (hc)) ?_;cbv)|(refine Br.t ?_ ?_;(focus first|assumption|lia);cbv)|(refine R0 ?_;cbv))
   all_goals first
    | exact⟨rfl,rfl,rfl,rfl,rfl,rfl,trivial⟩
    | exact⟨rfl,trivial⟩
    | (exfalso;clear hc;lia)
    | trace_state
  | some v =>
   obtain⟨e1,e2⟩:=val_yes hva
   rw[O.h (valV d),O.h (valB d),e1,e2] at hc
   have hs:=hRs i a v ha g2 hva
   have hg:=(valsF_succ ha g2 hva).1
   clear hQ hT hRs hRl ih hk hm hva g2 hma hR
   obtain⟨ak,at',an,al⟩:=a
   obtain⟨v1,v2,v3,v4,v5⟩:=v
   (repeat' first|(refine Na ?_ fun _ _=>?_;(focus lia);cbv)|(refine Ex.nd O ha ?_ ?_;(focus lia);cbv)|(refine CallThen.mk _ _ (C.fn (hc)) ?_;cbv)|(refine Back.up [(50,.loc 2048)] [] ?_ ?_ fun _ _=>?_;rotate_left 2;cbv;refine And.intro ?_ ?_)|(refine Nl fun _ _ hq=>?_;(try simp only [lenS] at hq);cbv)|(refine Br.t ?_ ?_;(focus first|assumption|lia);cbv)|(refine Need.mk ?_ ?_;rotate_left;cbv))
   all_goals(repeat' apply And.intro)
   all_goals try first
    | exact True.intro
    | exact WkR.refl _
    | rfl
    | exact hg
    | (clear hc hs hg;lia)
   all_goals try
    (rw[hRi];simp only [List.length_cons,List.length_nil];clear hc hs;omega)
   all_goals
    rename_i q hq1 _ _ k' hk'
    rw[hk',hq1]
    exact WkR.of_eq hs
 ·have hiN:i=N:=by omega
  have htk:l.take i=l:=List.take_of_length_le (by omega)
  rw[htk] at g2
  obtain⟨vs,hvs⟩:∃ vs,vs=valsF d l i:=⟨_,rfl⟩
  have hRi:R i=Vals.enc vs:=by rw[hR,hvs]
  rw[← hvs] at g2
  have hx0:valO d (.mk k t n l)=okV (rawO d k t n vs):=by rw[valO,g2]
  clear hRs hRl hR ih hk hm htk hvs
  rcases hma with ⟨rfl,rfl⟩ | ⟨rfl,rfl⟩ | ⟨hk34,a,b,rfl⟩ | ⟨rfl,hw,a,rfl⟩
  ·have kc:=get_fn O d (O.o ofL t) hd
   have hr:rawO d 1 t n vs=if getB d (ofL t)=true then some (getV d (ofL t)) else none:=by unfold rawO;rw[if_pos rfl]
   obtain⟨B,hB⟩:∃ B,B=getB d (ofL t):=⟨_,rfl⟩
   obtain⟨r,hrr⟩:∃ r,r=getV d (ofL t):=⟨_,rfl⟩
   have hval:valO d (.mk 1 t n [])=okBv B r:=by
    rw[hx0,hr,← hB,← hrr]
    cases B
    ·exact okV_not rfl
    ·exact okV_is rfl
   rw[O.h getV,O.h getB,show getV d (O.o ofL t)=r by rw[O.h];exact hrr.symm,show getB d (O.o ofL t)=B by rw[O.h];exact hB.symm] at kc
   clear hr hB hrr hx0 hRi
   cases B
   ·obtain⟨e1,e2⟩:=val_no (show valO d (.mk 1 t n [])=none by rw[hval,okB_false])
    rw[← hQ] at e1;rw[← hT] at e2
    subst e1;subst e2
    clear hval hQ hT
    (repeat' first|(refine CallThen.mk _ _ (C.fn (kc)) ?_;cbv)|(refine Br.t ?_ ?_;(focus first|assumption|lia);cbv)|(refine Br.f ?_ ?_;(focus first|assumption|lia);cbv)|(refine R0 ?_;cbv))
    all_goals first|exact⟨rfl,rfl,rfl,rfl,rfl,rfl,trivial⟩|(exfalso;clear kc;lia)|trace_state
   ·by_cases hv:r.Ok
    ·obtain⟨e1,e2⟩:=val_yes (show valO d (.mk 1 t n [])=some r by rw[hval,okBv,if_pos ⟨rfl,hv⟩])
     rw[← hQ] at e1;rw[← hT] at e2
     subst e1;subst e2
     have kr:=rcheck_ok hv
     clear hval hT hv
     obtain⟨r1,r2,r3,r4,r5⟩:=Q
     (repeat' first|(refine CallThen.mk _ _ (C.fn (kc)) ?_;cbv)|(refine CallThen.mk _ _ (C.fn (kr)) ?_;cbv)|(refine Br.t ?_ ?_;(focus first|assumption|lia);cbv)|(refine Br.f ?_ ?_;(focus first|assumption|lia);cbv)|(refine R0 ?_;cbv))
     all_goals first|exact⟨rfl,rfl,rfl,rfl,rfl,rfl,trivial⟩|(exfalso;clear kc kr;lia)|trace_state
    ·obtain⟨e1,e2⟩:=val_no (show valO d (.mk 1 t n [])=none by rw[hval,okB_bad hv])
     rw[← hQ] at e1;rw[← hT] at e2
     subst e1;subst e2
     obtain⟨e,he,kr⟩:=rcheck_bad hv
     clear hval hQ hT hv
     obtain⟨r1,r2,r3,r4,r5⟩:=r
     (repeat' first|(refine CallThen.mk _ _ (C.fn (kc)) ?_;cbv)|(refine CallThen.mk _ _ (C.fn (kr)) ?_;cbv)|(refine Br.t ?_ ?_;(focus first|assumption|lia);cbv)|(refine Br.f ?_ ?_;(focus first|assumption|lia);cbv)|(refine R0 ?_;cbv))
     all_goals first|exact⟨rfl,rfl,rfl,rfl,rfl,rfl,trivial⟩|(exfalso;clear kc kr;lia)|trace_state
  ·have kc:=num_fn O n
   have hval:valO d (.mk 2 t n [])=okBv true (numV n):=by
    rw[hx0,show rawO d 2 t n vs=some (numV n) by unfold rawO;rw[if_neg (by decide),if_pos rfl]]
    exact okV_is rfl
   obtain⟨r,hrr⟩:∃ r,r=numV n:=⟨_,rfl⟩
   rw[← hrr] at kc hval
   clear hx0 hRi hrr
   obtain⟨B,hB⟩:∃ B,B=true:=⟨_,rfl⟩
   rw[← hB] at hval
   cases B
   ·obtain⟨e1,e2⟩:=val_no (show valO d (.mk 2 t n [])=none by rw[hval,okB_false])
    rw[← hQ] at e1;rw[← hT] at e2
    subst e1;subst e2
    clear hval hQ hT
    (repeat' first|(refine Br.t ?_ ?_;(focus first|assumption|lia);cbv))
    all_goals first|exact⟨rfl,rfl,rfl,rfl,rfl,rfl,trivial⟩|(exfalso;clear kc;lia)|trace_state
   ·by_cases hv:r.Ok
    ·obtain⟨e1,e2⟩:=val_yes (show valO d (.mk 2 t n [])=some r by rw[hval,okBv,if_pos ⟨rfl,hv⟩])
     rw[← hQ] at e1;rw[← hT] at e2
     subst e1;subst e2
     have kr:=rcheck_ok hv
     clear hval hT hv
     obtain⟨r1,r2,r3,r4,r5⟩:=Q
     (repeat' first|(refine CallThen.mk _ _ (C.fn (kc)) ?_;cbv)|(refine CallThen.mk _ _ (C.fn (kr)) ?_;cbv)|(refine Br.t ?_ ?_;(focus first|assumption|lia);cbv)|(refine Br.f ?_ ?_;(focus first|assumption|lia);cbv)|(refine R0 ?_;cbv))
     all_goals first|exact⟨rfl,rfl,rfl,rfl,rfl,rfl,trivial⟩|(exfalso;clear kc kr;lia)|trace_state
    ·obtain⟨e1,e2⟩:=val_no (show valO d (.mk 2 t n [])=none by rw[hval,okB_bad hv])
     rw[← hQ] at e1;rw[← hT] at e2
     subst e1;subst e2
     obtain⟨e,he,kr⟩:=rcheck_bad hv
     clear hval hQ hT hv
     obtain⟨r1,r2,r3,r4,r5⟩:=r
     (repeat' first|(refine CallThen.mk _ _ (C.fn (kc)) ?_;cbv)|(refine CallThen.mk _ _ (C.fn (kr)) ?_;cbv)|(refine Br.t ?_ ?_;(focus first|assumption|lia);cbv)|(refine Br.f ?_ ?_;(focus first|assumption|lia);cbv)|(refine R0 ?_;cbv))
     all_goals first|exact⟨rfl,rfl,rfl,rfl,rfl,rfl,trivial⟩|(exfalso;clear kc kr;lia)|trace_state
  ·obtain⟨va,vb,rfl⟩:∃ va vb,vs=[va,vb]:=match vs,valsO_len g2 with
    | [va,vb],_=>⟨va,vb,rfl⟩
   have oa:=valsO_ok g2 va (by simp)
   have ob:=valsO_ok g2 vb (by simp)
   obtain⟨r,B,kc,hok⟩:=two_all hk34 oa ob
   have hval:valO d (.mk k t n [a,b])=okBv B r:=by
    rw[hx0,← hok]
    rcases hk34 with rfl|rfl<;>simp [rawO]
   have hRi:R i=[va.enc,vb.enc]:=hRi
   rw[hRi]
   clear hx0 hRi hok g2 oa ob
   obtain⟨a1,a2,a3,a4,a5⟩:=va
   obtain⟨b1,b2,b3,b4,b5⟩:=vb
   cases B
   ·obtain⟨e1,e2⟩:=val_no (show valO d (.mk k t n [a,b])=none by rw[hval,okB_false])
    rw[← hQ] at e1;rw[← hT] at e2
    subst e1;subst e2
    clear hval hQ hT
    (repeat' first|(refine Named.atG 0 rfl ?_;cbv)|(refine Named.atG 1 rfl ?_;cbv)|(refine Ex.mk _ ⟨by decide,rfl⟩ ?_;cbv)|(refine CallThen.mk _ _ (C.fn (kc)) ?_;cbv)|(refine Br.f ?_ ?_;(focus first|assumption|lia);cbv)|(refine Need.mk ?_ ?_;rotate_left;cbv)|(refine R0 ?_;cbv))
    all_goals first|exact⟨rfl,rfl,rfl,rfl,rfl,rfl,trivial⟩|(exfalso;clear kc;lia)|(clear kc;simp only [List.length_cons,List.length_nil];lia)|trace_state
   ·by_cases hv:r.Ok
    ·obtain⟨e1,e2⟩:=val_yes (show valO d (.mk k t n [a,b])=some r by rw[hval,okBv,if_pos ⟨rfl,hv⟩])
     rw[← hQ] at e1;rw[← hT] at e2
     subst e1;subst e2
     have kr:=rcheck_ok hv
     clear hval hT hv
     obtain⟨r1,r2,r3,r4,r5⟩:=Q
     (repeat' first|(refine Named.atG 0 rfl ?_;cbv)|(refine Named.atG 1 rfl ?_;cbv)|(refine Ex.mk _ ⟨by decide,rfl⟩ ?_;cbv)|(refine CallThen.mk _ _ (C.fn (kc)) ?_;cbv)|(refine CallThen.mk _ _ (C.fn (kr)) ?_;cbv)|(refine Br.t ?_ ?_;(focus first|assumption|lia);cbv)|(refine Br.f ?_ ?_;(focus first|assumption|lia);cbv)|(refine Need.mk ?_ ?_;rotate_left;cbv)|(refine R0 ?_;cbv))
     all_goals first|exact⟨rfl,rfl,rfl,rfl,rfl,rfl,trivial⟩|(exfalso;clear kc kr;lia)|(clear kc kr;simp only [List.length_cons,List.length_nil];lia)|trace_state
    ·obtain⟨e1,e2⟩:=val_no (show valO d (.mk k t n [a,b])=none by rw[hval,okB_bad hv])
     rw[← hQ] at e1;rw[← hT] at e2
     subst e1;subst e2
     obtain⟨e,he,kr⟩:=rcheck_bad hv
     clear hval hQ hT hv
     obtain⟨r1,r2,r3,r4,r5⟩:=r
     (repeat' first|(refine Named.atG 0 rfl ?_;cbv)|(refine Named.atG 1 rfl ?_;cbv)|(refine Ex.mk _ ⟨by decide,rfl⟩ ?_;cbv)|(refine CallThen.mk _ _ (C.fn (kc)) ?_;cbv)|(refine CallThen.mk _ _ (C.fn (kr)) ?_;cbv)|(refine Br.f ?_ ?_;(focus first|assumption|lia);cbv)|(refine Need.mk ?_ ?_;rotate_left;cbv)|(refine R0 ?_;cbv))
     all_goals first|exact⟨rfl,rfl,rfl,rfl,rfl,rfl,trivial⟩|(exfalso;clear kc kr;lia)|(clear kc kr;simp only [List.length_cons,List.length_nil];lia)|trace_state
  ·obtain⟨va,rfl⟩:∃ va,vs=[va]:=match vs,valsO_len g2 with
    | [va],_=>⟨va,rfl⟩
   have oa:=valsO_ok g2 va (by simp)
   obtain⟨r,B,kc,hok⟩:=call_all hw oa
   have hval:valO d (.mk 5 t n [a])=okBv B r:=by
    rw[hx0,← hok]
    simp [rawO]
   have hRi:R i=[va.enc]:=hRi
   rw[hRi]
   rw[show ofL t=O.o ofL t by rw[O.h]] at kc
   clear hx0 hRi hok g2 oa hw
   obtain⟨a1,a2,a3,a4,a5⟩:=va
   cases B
   ·obtain⟨e1,e2⟩:=val_no (show valO d (.mk 5 t n [a])=none by rw[hval,okB_false])
    rw[← hQ] at e1;rw[← hT] at e2
    subst e1;subst e2
    clear hval hQ hT
    (repeat' first|(refine Named.atG 0 rfl ?_;cbv)|(refine Ex.mk _ ⟨by decide,rfl⟩ ?_;cbv)|(refine CallThen.mk _ _ (C.fn (kc)) ?_;cbv)|(refine Br.t ?_ ?_;(focus first|assumption|lia);cbv)|(refine Br.f ?_ ?_;(focus first|assumption|lia);cbv)|(refine Need.mk ?_ ?_;rotate_left;cbv)|(refine R0 ?_;cbv))
    all_goals first|exact⟨rfl,rfl,rfl,rfl,rfl,rfl,trivial⟩|(exfalso;clear kc;lia)|(clear kc;simp only [List.length_cons,List.length_nil];lia)|trace_state
   ·by_cases hv:r.Ok
    ·obtain⟨e1,e2⟩:=val_yes (show valO d (.mk 5 t n [a])=some r by rw[hval,okBv,if_pos ⟨rfl,hv⟩])
     rw[← hQ] at e1;rw[← hT] at e2
     subst e1;subst e2
     have kr:=rcheck_ok hv
     clear hval hT hv
     obtain⟨r1,r2,r3,r4,r5⟩:=Q
     (repeat' first|(refine Named.atG 0 rfl ?_;cbv)|(refine Ex.mk _ ⟨by decide,rfl⟩ ?_;cbv)|(refine CallThen.mk _ _ (C.fn (kc)) ?_;cbv)|(refine CallThen.mk _ _ (C.fn (kr)) ?_;cbv)|(refine Br.t ?_ ?_;(focus first|assumption|lia);cbv)|(refine Br.f ?_ ?_;(focus first|assumption|lia);cbv)|(refine Need.mk ?_ ?_;rotate_left;cbv)|(refine R0 ?_;cbv))
     all_goals first|exact⟨rfl,rfl,rfl,rfl,rfl,rfl,trivial⟩|(exfalso;clear kc kr;lia)|(clear kc kr;simp only [List.length_cons,List.length_nil];lia)|trace_state
    ·obtain⟨e1,e2⟩:=val_no (show valO d (.mk 5 t n [a])=none by rw[hval,okB_bad hv])
     rw[← hQ] at e1;rw[← hT] at e2
     subst e1;subst e2
     obtain⟨e,he,kr⟩:=rcheck_bad hv
     clear hval hQ hT hv
     obtain⟨r1,r2,r3,r4,r5⟩:=r
     (repeat' first|(refine Named.atG 0 rfl ?_;cbv)|(refine Ex.mk _ ⟨by decide,rfl⟩ ?_;cbv)|(refine CallThen.mk _ _ (C.fn (kc)) ?_;cbv)|(refine CallThen.mk _ _ (C.fn (kr)) ?_;cbv)|(refine Br.t ?_ ?_;(focus first|assumption|lia);cbv)|(refine Br.f ?_ ?_;(focus first|assumption|lia);cbv)|(refine Need.mk ?_ ?_;rotate_left;cbv)|(refine R0 ?_;cbv))
     all_goals first|exact⟨rfl,rfl,rfl,rfl,rfl,rfl,trivial⟩|(exfalso;clear kc kr;lia)|(clear kc kr;simp only [List.length_cons,List.length_nil];lia)|trace_state
theorem rnumX_fn (n:Int):Fn prog 170 [.int .i64 n] [] [.agg (numV n).enc] []:=by
 refine go (fn:=Proofs.Tryz.f170) (n:=4) (rv:=[ResultVar.cell 2 92]) rfl (by decide) rfl (by decide +kernel) rfl rfl (by simp) fun F L C=>?_
 cbv
 (repeat' first|(refine R0 ?_;cbv))
theorem rtext_fn (s:ByteArray):Fn prog 172 [.str s] [] [.agg (textV s).enc] []:=by
 refine go (fn:=Proofs.Tryz.f172) (n:=4) (rv:=[ResultVar.cell 2 92]) rfl (by decide) rfl (by decide +kernel) rfl rfl (by simp) fun F L C=>?_
 cbv
 (repeat' first|(refine R0 ?_;cbv))
theorem rpoint_fn (x y:Int):Fn prog 173 [.agg [.int .i64 x,.int .i64 y]] [] [.agg (pointV x y).enc] []:=by
 refine go (fn:=Proofs.Tryz.f173) (n:=4) (rv:=[ResultVar.cell 2 92]) rfl (by decide) rfl (by decide +kernel) rfl rfl (by simp) fun F L C=>?_
 cbv
 (repeat' first|(refine R0 ?_;cbv))
theorem rmay_fn (x y:Int):Fn prog 199 [.agg [.int .i64 x,.int .i64 y]] [] [.bool (gOk x y)] []:=by
 obtain⟨B,hB⟩:∃ B,B=gOk x y:=⟨_,rfl⟩
 have hi:B=true ↔ -1048576≤x∧x≤1048576∧-1048576≤y∧y≤1048576:=by rw[hB];exact gOk_iff
 rw[← hB]
 clear hB
 cases B
 ·have hi:¬ (-1048576≤x∧x≤1048576∧-1048576≤y∧y≤1048576):=fun q=>by cases hi.2 q
  refine go (fn:=Proofs.Tryz.f199) (n:=20) (rv:=[ResultVar.tmp 2]) rfl (by decide) rfl (by decide +kernel) rfl rfl (by simp) fun F L C=>?_
  cbv
  (repeat' first|(refine Br.f ?_ ?_;(focus first|assumption|lia);cbv)|(refine Br.mk (fun _=>?_) (fun _=>?_)<;>cbv)|(refine R0 ?_;cbv))
  all_goals first
   | exact⟨rfl,trivial⟩
   | (exfalso;lia)
   | trace_state
 ·have hi:(-1048576≤x∧x≤1048576∧-1048576≤y∧y≤1048576):=hi.1 rfl
  refine go (fn:=Proofs.Tryz.f199) (n:=20) (rv:=[ResultVar.tmp 2]) rfl (by decide) rfl (by decide +kernel) rfl rfl (by simp) fun F L C=>?_
  cbv
  (repeat' first|(refine Br.t ?_ ?_;(focus first|assumption|lia);cbv)|(refine R0 ?_;cbv))
  all_goals first
   | exact⟨rfl,trivial⟩
   | (exfalso;lia)
   | trace_state
theorem ras_n (n:Int):Fn prog 186 [.agg (numV n).enc] [] [.agg [.int .i64 n,.int .i64 0],.bool (gOk n 0)] []:=by
 have k:=rmay_fn n 0
 obtain⟨B,hB⟩:∃ B,B=gOk n 0:=⟨_,rfl⟩
 rw[← hB] at k ⊢
 clear hB
 refine go (fn:=Proofs.Tryz.f186) (n:=18) (rv:=[ResultVar.cell 2 90,ResultVar.tmp 3]) rfl (by decide) rfl (by decide +kernel) rfl rfl (by simp) fun F L C=>?_
 cbv
 (repeat' first|(refine CallThen.mk _ _ (C.fn (k)) ?_;cbv)|(refine Br.t ?_ ?_;(focus first|assumption|lia);cbv)|(refine R0 ?_;cbv))
 all_goals first
  | exact⟨rfl,rfl,rfl,trivial⟩
  | exact⟨rfl,rfl,trivial⟩
  | trace_state
theorem ras_p (x y:Int):Fn prog 186 [.agg (pointV x y).enc] [] [.agg [.int .i64 x,.int .i64 y],.bool true] []:=by
 refine go (fn:=Proofs.Tryz.f186) (n:=18) (rv:=[ResultVar.cell 2 90,ResultVar.tmp 3]) rfl (by decide) rfl (by decide +kernel) rfl rfl (by simp) fun F L C=>?_
 cbv
 (repeat' first|(refine Br.t ?_ ?_;(focus first|assumption|lia);cbv)|(refine Br.f ?_ ?_;(focus first|assumption|lia);cbv)|(refine R0 ?_;cbv))
 all_goals first
  | exact⟨rfl,rfl,trivial⟩
  | (exfalso;lia)
  | trace_state
theorem ras_t (s:ByteArray):Fn prog 186 [.agg (textV s).enc] [] [.agg [.int .i64 0,.int .i64 0],.bool false] []:=by
 refine go (fn:=Proofs.Tryz.f186) (n:=18) (rv:=[ResultVar.cell 2 90,ResultVar.tmp 3]) rfl (by decide) rfl (by decide +kernel) rfl rfl (by simp) fun F L C=>?_
 cbv
 (repeat' first|(refine Br.f ?_ ?_;(focus first|assumption|lia);cbv)|(refine R0 ?_;cbv))
 all_goals first
  | exact⟨rfl,rfl,trivial⟩
  | exact trivial
  | (exfalso;lia)
  | trace_state
theorem rmul03_fn {a b c d e f:Int} (h:gOk a b=true) (k:gOk c d=true) (he:e=a * c-b * d) (hf:f=a * d+b * c):Fn prog 187 [.agg [.int .i64 a,.int .i64 b],.agg [.int .i64 c,.int .i64 d]] [] [.agg [.int .i64 e,.int .i64 f]] []:=by
 obtain⟨a1,a2,b1,b2⟩:=gOk_iff.1 h
 obtain⟨c1,c2,d1,d2⟩:=gOk_iff.1 k
 have e1:=mul_bound a1 a2 c1 c2
 have e2:=mul_bound b1 b2 d1 d2
 have e3:=mul_bound a1 a2 d1 d2
 have e4:=mul_bound b1 b2 c1 c2
 obtain⟨p1,h1⟩:∃ p,p=a * c:=⟨_,rfl⟩
 obtain⟨p2,h2⟩:∃ p,p=b * d:=⟨_,rfl⟩
 obtain⟨p3,h3⟩:∃ p,p=a * d:=⟨_,rfl⟩
 obtain⟨p4,h4⟩:∃ p,p=b * c:=⟨_,rfl⟩
 rw[← h1] at e1 he
 rw[← h2] at e2 he
 rw[← h3] at e3 hf
 rw[← h4] at e4 hf
 have n1:p1=IntKind.i64.wrap (a * c):=by rw[← h1,wrap64 (by omega)]
 have n2:p2=IntKind.i64.wrap (b * d):=by rw[← h2,wrap64 (by omega)]
 have n3:p3=IntKind.i64.wrap (a * d):=by rw[← h3,wrap64 (by omega)]
 have n4:p4=IntKind.i64.wrap (b * c):=by rw[← h4,wrap64 (by omega)]
 have n5:e=IntKind.i64.wrap (p1-p2):=by rw[← he,wrap64 (by omega)]
 have n6:f=IntKind.i64.wrap (p3+p4):=by rw[← hf,wrap64 (by omega)]
 clear h k h1 h2 h3 h4 he hf
 refine go (fn:=Proofs.Tryz.f187) (n:=26) (rv:=[ResultVar.cell 4 90]) rfl (by decide) rfl (by decide +kernel) rfl rfl (by simp) fun F L C=>?_
 cbv
 (repeat' first|(refine Named.atG p1 n1 ?_;cbv)|(refine Named.atG p2 n2 ?_;cbv)|(refine Named.atG p3 n3 ?_;cbv)|(refine Named.atG p4 n4 ?_;cbv)|(refine Named.atG e n5 ?_;cbv)|(refine Named.atG f n6 ?_;cbv)|(refine R0 ?_;cbv))
 all_goals first
  | exact⟨rfl,rfl,trivial⟩
  | trace_state
theorem rnorm03_fn {a b e:Int} (h:gOk a b=true) (he:e=a * a+b * b):Fn prog 188 [.agg [.int .i64 a,.int .i64 b]] [] [.int .i64 e] []:=by
 obtain⟨a1,a2,b1,b2⟩:=gOk_iff.1 h
 have e1:=mul_bound a1 a2 a1 a2
 have e2:=mul_bound b1 b2 b1 b2
 obtain⟨p1,h1⟩:∃ p,p=a * a:=⟨_,rfl⟩
 obtain⟨p2,h2⟩:∃ p,p=b * b:=⟨_,rfl⟩
 rw[← h1] at e1 he
 rw[← h2] at e2 he
 have n1:p1=IntKind.i64.wrap (a * a):=by rw[← h1,wrap64 (by omega)]
 have n2:p2=IntKind.i64.wrap (b * b):=by rw[← h2,wrap64 (by omega)]
 have n5:e=IntKind.i64.wrap (p1+p2):=by rw[← he,wrap64 (by omega)]
 clear h h1 h2 he
 refine go (fn:=Proofs.Tryz.f188) (n:=13) (rv:=[ResultVar.tmp 2]) rfl (by decide) rfl (by decide +kernel) rfl rfl (by simp) fun F L C=>?_
 cbv
 (repeat' first|(refine Named.atG p1 n1 ?_;cbv)|(refine Named.atG p2 n2 ?_;cbv)|(refine Named.atG e n5 ?_;cbv)|(refine R0 ?_;cbv))
 all_goals first
  | exact⟨rfl,trivial⟩
  | trace_state
noncomputable def firstE:List (List UInt8)→Int
 | []=>0
 | p::r=>if parseE p≠0 then parseE p else firstE r
noncomputable def allE (s:List UInt8):Int:=if 4<(splitLC s).length then 5 else firstE (splitLC s)
noncomputable def allV (s:List UInt8):List Nd:=if allE s=0 then(splitLC s).map parseV else[]
theorem firstE_zero:∀ {l:List (List UInt8)},(∀ p∈l,parseE p=0)→firstE l=0
 | [],_=>rfl
 | p::r,h=>by rw[firstE,if_neg (by rw[h p (by simp)];simp),firstE_zero fun q hq=>h q (List.mem_cons_of_mem _ hq)]
theorem firstE_at:∀ {l:List (List UInt8)} {k:Nat} {p:List UInt8},l[k]?=some p→parseE p≠0→(∀ (j:Nat) q,j<k→l[j]?=some q→parseE q=0)→firstE l=parseE p
 | q::r,0,p,h,h1,_=>by simp at h;subst h;rw[firstE,if_pos h1]
 | q::r,k+1,p,h,h1,h2=>by
  rw[firstE,if_neg (by rw[h2 0 q (by omega) rfl];simp)]
  exact firstE_at (by simpa using h) h1 fun j x hj hx=>h2 (j+1) x (by omega) (by simpa using hx)
 | [],k,p,h,_,_=>by simp at h
theorem split_count:∀ l:List UInt8,(splitLC l).length=l.count 44+1
 | []=>rfl
 | c::r=>by
  have ih:=split_count r
  simp only [splitLC]
  by_cases h:c=44
  ·rw[if_pos h,List.length_cons,ih,h];simp
  ·rw[if_neg h,List.count_cons_of_ne h]
   have hne:=splitL_neC r
   split
   ·rename_i p ps hs
    rw[hs] at ih
    simpa using ih
   ·rename_i hs;exact absurd hs hne
theorem pieces_eq (s:List UInt8):piecesC (ofL s)=(splitLC s).map ofL:=rfl
theorem cnt_eq (s:List UInt8):cntC (ofL s)+1=(splitLC s).length:=by
 rw[split_count]
 simp only [cntC,Lib.countByte,toL_ofL]
 omega
theorem piece_len {s p:List UInt8} (h:p∈splitLC s):p.length≤s.length:=(splitL_lenC s).2 p h
noncomputable def accV (s:List UInt8) (i:Nat):List Nd:=((splitLC s).take i).map parseV
theorem accV_snoc (O:Opq) {s:List UInt8} {i:Nat} {p:List UInt8} (h:(splitLC s)[i]?=some p):O.o Nds.enc (accV s (i+1))=O.o Nds.enc (accV s i)++[(O.o parseV p).en O]:=by
 rw[O.h,O.h,accV,List.take_add_one,h,List.map_append,Nds.enc_append]
 congr 1
 rw[show(Option.some p).toList=[p] from rfl,List.map_cons,List.map_nil,Nds.en_eq O];rfl
theorem roomN {n m:Nat} {x:List PV} (h:n≤4) (hm:m≤1000):(n+[x].length) * m≤2 ^ 44∧n+[x].length≤2 ^ 60:=by
 have:(n+[x].length) * m≤5 * 1000:=Nat.mul_le_mul (by simp;omega) hm
 exact⟨Nat.le_trans this (by decide),by simp;omega⟩
set_option maxHeartbeats 1000000 in
theorem eall_fn (O:Opq) (s:List UInt8) (hl:s.length≤1099511627776):Fn prog 32 [.str (O.o ofL s)] [] [.sl false 0 false 4 (O.o Nds.enc (O.o allV s)),.int .i64 (O.o allE s)] []:=by
 have e1:O.o Nds.enc []=[]:=Nds.nil O
 have hsz:(O.o ofL s).size≤1099511627776:=by rw[O.h,size_ofL];exact hl
 have kc:=count_fnM O (O.o ofL s) comma rfl
 have ks:=split_fnC O (O.o ofL s) comma rfl hsz
 obtain⟨n,hn⟩:∃ n:Int,n=O.o cntC (O.o ofL s):=⟨_,rfl⟩
 have hn1:n+1=(splitLC s).length:=by rw[hn];simp only [O.h];exact cnt_eq s
 obtain⟨P,hP⟩:∃ P,P=O.o piecesC (O.o ofL s):=⟨_,rfl⟩
 have hP1:P=(splitLC s).map ofL:=by rw[hP];simp only [O.h];exact pieces_eq s
 obtain⟨D,hD⟩:∃ D,D=splitLC s:=⟨_,rfl⟩
 have hPl:(O.o Strs P).length=D.length:=by rw[O.h,Strs_len,hP1,List.length_map,hD]
 rw[← hn] at kc
 rw[← hP] at ks
 obtain⟨S,hS⟩:∃ S,S=O.o ofL s:=⟨_,rfl⟩
 rw[← hS] at kc ks ⊢
 have hnil:∀ {e:Int},e≠0→allE s=e→O.o allE s=e∧O.o Nds.enc (O.o allV s)=[]:=fun {e} h0 h=>by
  rw[O.h allE,O.h allV]
  exact⟨h,by rw[allV,if_neg (by rw[h];exact h0)];exact e1⟩
 have hD0:0<D.length:=by rw[hD,split_count];omega
 rw[← hD] at hn1
 by_cases h4:4<D.length
 ·obtain⟨q1,q2⟩:=hnil (e:=5) (by decide) (by rw[allE,if_pos (by rw[← hD];exact h4)])
  rw[q1,q2]
  clear hnil hP hP1 hn hS ks
  refine go (fn:=Proofs.Tryz.f32) (n:=32) (rv:=[ResultVar.tmp 2,ResultVar.tmp 3]) rfl (by decide) rfl (by decide +kernel) rfl rfl (by simp) fun F L C=>?_
  cbv
  (repeat' first|(refine CallThen.mk _ _ (C.fn (kc)) ?_;cbv)|(refine Br.t ?_ ?_;(focus first|assumption|lia);cbv)|(refine R0 ?_;cbv))
  all_goals first
   | exact⟨rfl,trivial⟩
   | (exfalso;clear kc;lia)
   | trace_state
 have hAE:allE s=firstE D:=by rw[allE,if_neg (by rw[← hD];exact h4),← hD]
 obtain⟨z,hz⟩:∃ z:Nat,z=0:=⟨_,rfl⟩
 obtain⟨N,hN⟩:∃ N:Nat,N=D.length:=⟨_,rfl⟩
 have hz0:O.o Nds.enc (accV s z)=[]:=by rw[hz];exact e1
 have hz1:O.o Nds.enc (O.o (accV s) z)=[]:=by rw[O.h (accV s)];exact hz0
 clear hz0 hn hP hS
 refine go (fn:=Proofs.Tryz.f32) (n:=32) (rv:=[ResultVar.tmp 2,ResultVar.tmp 3]) rfl (by decide) rfl (by decide +kernel) rfl rfl (by simp) fun F L C=>?_
 cbv
 (repeat' first|(refine CallThen.mk _ _ (C.fn (kc)) ?_;cbv)|(refine CallThen.mk _ _ (C.fn (ks)) ?_;cbv)|(refine Nm fun _ _=>?_;cbv)|(refine Br.f ?_ ?_;(focus first|assumption|lia);cbv))
 all_goals try(exfalso;clear kc ks hz1;lia)
 refine LoopThen.mk (C.loopAt (ι:=Nat) [(2,4),(6,8),(15,31)] (fun i=>[(2,.nils),(3,.int .i64 0),(4,.ref 50),(15,.int .i64 i)]) (fun i=>[(50,.arr 0 none 4 (O.o Nds.enc (O.o (accV s) i)))])
  (fun i=>i≤N∧∀ (j:Nat) q,j<i→D[j]?=some q→parseE q=0) (fun i=>N-i) (by decide +kernel) (Start.mk z [(50,.nil 4)] [] ⟨by omega,fun j q hj=>by omega⟩ ?_) ?_)
 ·cbv
  (repeat' apply And.intro)<;>first|exact True.intro|exact WkR.refl _|rfl|exact hz1|(clear kc ks hz1;lia)|trace_state
 intro i g
 cbv
 have g1:i≤N:=g.1
 have g2:=g.2
 clear g hz1
 by_cases hi:i<D.length
 ·obtain⟨p,hp⟩:∃ p,D[i]?=some p:=⟨D[i],by simp [hi]⟩
  have hpm:P[i]?=some (O.o ofL p):=by rw[hP1,← hD,List.getElem?_map,hp,O.h];rfl
  have hpl:p.length≤s.length:=piece_len (by rw[← hD];exact List.mem_of_getElem? hp)
  have kp:=eparse_fn O p (by omega)
  by_cases he:parseE p=0
  ·rw[show O.o parseE p=0 by rw[O.h];exact he] at kp
   have hst:∀ (j:Nat) q,j<i+1→D[j]?=some q→parseE q=0:=fun j q hj hq=>by
    by_cases ej:j=i
    ·subst ej;rw[hp] at hq;cases hq;exact he
    ·exact g2 j q (by omega) hq
   have hsn:=accV_snoc O (s:=s) (i:=i) (by rw[← hD];exact hp)
   rw[show accV s (i+1)=O.o (accV s) (i+1) by rw[O.h],show accV s i=O.o (accV s) i by rw[O.h]] at hsn
   have hal:(O.o Nds.enc (O.o (accV s) i)).length≤4:=by
    rw[Nds.en_len,O.h,accV,List.length_map,List.length_take];omega
   obtain⟨x,hx⟩:∃ x,x=O.o parseV p:=⟨_,rfl⟩
   rw[← hx] at kp hsn
   obtain⟨A1,hA1⟩:∃ A,A=O.o Nds.enc (O.o (accV s) (i+1)):=⟨_,rfl⟩
   clear hx g2 hnil hAE kc ks hP1
   obtain⟨k,t,nn,l⟩:=x
   (repeat' first|(refine Na ?_ fun _ _=>?_;(focus lia);cbv)|(refine Ex.known O strW rfl hpm ?_ ?_;(focus lia);cbv)|(refine CallThen.mk _ _ (C.fn (kp)) ?_;cbv)|(refine Back.to (i+1) [(50,.loc 2048)] [] ?_ fun _ _=>?_;rotate_left;cbv)|(refine Nl fun _ _ hq=>?_;(try simp only [lenS] at hq);cbv)|(refine Br.t ?_ ?_;(focus first|assumption|lia);cbv)|(refine Need.mk ?_ ?_;rotate_left;cbv))
   all_goals first
    | exact roomN hal (by decide)
    | exact⟨⟨by omega,hst⟩,by show N-(i+1)<N-i;omega⟩
    | (rename_i R eR q eq y ey;subst ey;refine⟨.of_eq (hsn.trans eR.symm),.refl _,?_,trivial⟩;clear hpm kp hsn hst;lia)
    | (exfalso;clear hpm kp hsn hst;lia)
    | trace_state
  ·have hAE2:firstE D=parseE p:=firstE_at hp he g2
   obtain⟨q1,q2⟩:=hnil he (by rw[hAE,hAE2])
   rw[q1,q2]
   obtain⟨v,hv⟩:∃ v,v=parseE p:=⟨_,rfl⟩
   rw[show O.o parseE p=v by rw[O.h,hv]] at kp
   rw[← hv] at he ⊢
   obtain⟨x,hx⟩:∃ x,x=O.o parseV p:=⟨_,rfl⟩
   rw[← hx] at kp
   clear hx g2 hnil hAE kc ks hP1 hAE2 q1 q2 hv
   obtain⟨k,t,nn,l⟩:=x
   (repeat' first|(refine Ex.known O strW rfl hpm ?_ ?_;(focus lia);cbv)|(refine CallThen.mk _ _ (C.fn (kp)) ?_;cbv)|(refine Br.t ?_ ?_;(focus first|assumption|lia);cbv)|(refine Br.f ?_ ?_;(focus first|assumption|lia);cbv)|(refine R0 ?_;cbv))
   all_goals first
    | exact⟨rfl,trivial⟩
    | (exfalso;clear hpm kp;lia)
    | (exfalso;exact he (by assumption))
    | trace_state
 ·have hA0:allE s=0:=by rw[hAE];exact firstE_zero fun p hp=>by obtain⟨j,hj,rfl⟩:=List.getElem_of_mem hp;exact g2 j _ (by omega) (by simp)
  have q1:O.o allE s=0:=by rw[O.h];exact hA0
  have q2:O.o Nds.enc (O.o allV s)=O.o Nds.enc (O.o (accV s) i):=by
   rw[O.h allV,O.h (accV s),allV,if_pos hA0,accV,List.take_of_length_le (by rw[← hD];omega)]
  rw[q1,q2]
  clear g2 hnil hAE kc ks hP1 q1 q2
  (repeat' first|(refine RetThen.mk [] [50] ?_;cbv)|(refine Nl fun _ _ hq=>?_;(try simp only [lenS] at hq);cbv)|(refine Br.f ?_ ?_;(focus first|assumption|lia);cbv))
  all_goals first
   | exact⟨.of_eq (by symm;assumption),trivial⟩
   | (exfalso;lia)
   | trace_state
open Go
theorem take_snoc {α:Type} {s:List α} {i:Nat} {x:α} (h:s[i]?=some x):s.take (i+1)=s.take i++[x]:=by
 rw[List.take_add_one,h];rfl
theorem getD_some {s:List UInt8} {i:Nat} (h:i<s.length):s[i]?=some (s.getD i 0):=by
 simp [List.getD_eq_getElem?_getD,h]
def netI (s:List UInt8) (i:Nat):Int:=net (s.take i)
theorem net_abs:∀ s:List UInt8,-(s.length:Int)≤net s∧net s≤s.length
 | []=>by simp [net]
 | c::r=>by
  have:=net_abs r
  simp only [net,List.length_cons,parV]
  split
  ·omega
  ·split<;>omega
theorem netI_abs (s:List UInt8) (i:Nat):-(s.length:Int)≤netI s i∧netI s i≤s.length:=by
 have:=net_abs (s.take i)
 have h:(s.take i).length≤s.length:=by rw[List.length_take];omega
 rw[netI];omega
theorem u8_int {c:UInt8} {k:Nat} (hk:k<256):(c.toNat:Int)=k ↔ c=UInt8.ofNat k:=by
 constructor
 ·intro h;exact UInt8.toNat_inj.1 (by simp;omega)
 ·rintro rfl;simp;omega
theorem net_cases {s:List UInt8} {i:Nat} {v:Int} (h:i<s.length) (hv:v=((s.getD i 0).toNat:Int)) :
  (v=40∧netI s (i+1)=netI s i+1)∨(v=41∧netI s (i+1)=netI s i-1)∨(¬ v=40∧¬ v=41∧netI s (i+1)=netI s i):=by
 rw[netI,netI,take_snoc (getD_some h),net_append,net_cons,net_nil,hv]
 generalize s.getD i 0=d
 have h1:=u8_int (c:=d) (k:=40) (by decide)
 have h2:=u8_int (c:=d) (k:=41) (by decide)
 simp only [parV]
 by_cases e1:d=40
 ·rw[if_pos e1];left;exact⟨h1.2 e1,by omega⟩
 ·rw[if_neg e1]
  by_cases e2:d=41
  ·rw[if_pos e2];right;left;exact⟨h2.2 e2,by omega⟩
  ·rw[if_neg e2];right;right;exact⟨fun k=>e1 (h1.1 k),fun k=>e2 (h2.1 k),by omega⟩
def lastI (c:UInt8) (s:List UInt8) (i:Nat):Int:=match lastN c (s.take i) with
 | some k=>k
 | none=>-1
theorem last_cases {c:UInt8} {s:List UInt8} {i:Nat} {v cv:Int} (hc:parV c=0) (h:i<s.length) (hv:v=((s.getD i 0).toNat:Int)) (hcv:cv=c.toNat) :
  (v=cv∧netI s (i+1)=0∧lastI c s (i+1)=i)∨(¬ (v=cv∧netI s (i+1)=0)∧lastI c s (i+1)=lastI c s i):=by
 rw[netI,lastI,lastI,take_snoc (getD_some h),net_append,net_cons,net_nil,hv,hcv,lastN_snoc]
 generalize s.getD i 0=d
 have e:((d.toNat:Int)=c.toNat) ↔ d=c:=⟨fun k=>UInt8.toNat_inj.1 (by omega),fun k=>by rw[k]⟩
 rw[e]
 by_cases hd:d=c
 ·subst hd
  rw[hc]
  simp only [true_and,Int.add_zero]
  by_cases h0:net (s.take i)=0
  ·rw[if_pos h0];left;refine⟨h0,?_⟩
   simp only [List.length_take];omega
  ·rw[if_neg h0];right;exact⟨h0,rfl⟩
 ·rw[if_neg (fun k=>hd k.1)];right;exact⟨fun k=>hd k.1,rfl⟩
theorem lastI_end {c:UInt8} {s:List UInt8}:lastI c s s.length=match lastN c s with|some k=>(k:Int)|none=>-1:=by rw[lastI,List.take_length]
open Classical in
noncomputable def wholeD (s:List UInt8):Bool:=decide (wholeB s)
theorem whole_nets {s:List UInt8}:wholeB s ↔ netI s s.length=0∧2≤s.length∧∀ j,0<j→j<s.length→0<netI s j:=by
 unfold wholeB netI
 rw[List.take_length]
 refine and_congr_right fun _=>and_congr_right fun _=>⟨fun h j h0 h1=>?_,fun h p q e hp hq=>?_⟩
 ·refine h (s.take j) (s.drop j) (List.take_append_drop j s).symm (fun e=>?_) (fun e=>?_)
  ·have:=congrArg List.length e;rw[List.length_take,List.length_nil] at this;omega
  ·have:=congrArg List.length e;rw[List.length_drop,List.length_nil] at this;omega
 ·have h1:0<p.length:=List.length_pos_iff.2 hp
  have h2:0<q.length:=List.length_pos_iff.2 hq
  have h3:s.length=p.length+q.length:=by rw[e,List.length_append]
  have:=h p.length h1 (by omega)
  rwa [e,List.take_left] at this
open Classical in
theorem wholeD_no {s:List UInt8} {i:Nat} (h:netI s (i+1)≤0) (hi:i+1<s.length):wholeD s=false:=by
 rw[wholeD,decide_eq_false_iff_not,whole_nets]
 exact fun k=>by have:=k.2.2 (i+1) (by omega) hi;omega
open Classical in
theorem wholeD_end {s:List UInt8} (h:∀ j,0<j→j<s.length→0<netI s j):wholeD s=true ↔ netI s s.length=0∧2≤s.length:=by
 rw[wholeD,decide_eq_true_eq,whole_nets]
 exact⟨fun k=>⟨k.1,k.2.1⟩,fun k=>⟨k.1,k.2,h⟩⟩
def accD (k:Nat) (l:List Nd) (i:Nat):Int:=((l.take i).foldl (fun d a=>max d (depthN k a)) 0:Nat)
theorem accD_step {k:Nat} {l:List Nd} {i:Nat} {x:Nd} (h:l[i]?=some x):accD k l (i+1)=max (accD k l i) (depthN k x:Nat):=by
 rw[accD,take_snoc h,List.foldl_append,accD]
 simp only [List.foldl_cons,List.foldl_nil]
 omega
theorem depthN_le:∀ (k:Nat) (x:Nd),1≤depthN k x∧depthN k x≤k+1
 | 0,x=>by simp [depthN]
 | k+1,.mk _ _ _ l=>by
  rw[depthN]
  have:∀ (l:List Nd) (d:Nat),d≤k+1→l.foldl (fun d a=>max d (depthN k a)) d≤k+1:=by
   intro l
   induction l with
   | nil=>intro d hd;exact hd
   | cons a r ih=>intro d hd;exact ih _ (Nat.max_le.2 ⟨hd,(depthN_le k a).2⟩)
  have:=this l 0 (by omega)
  omega
theorem accD_le (k:Nat) (l:List Nd) (i:Nat):0≤accD k l i∧accD k l i≤k+1:=by
 rw[accD]
 have:∀ (l:List Nd) (d:Nat),d≤k+1→l.foldl (fun d a=>max d (depthN k a)) d≤k+1:=by
  intro l
  induction l with
  | nil=>intro d hd;exact hd
  | cons a r ih=>intro d hd;exact ih _ (Nat.max_le.2 ⟨hd,(depthN_le k a).2⟩)
 have:=this (l.take i) 0 (by omega)
 omega
def depthI (k:Nat) (x:Nd):Int:=(depthN k x:Nat)
theorem depthI_succ (k:Nat) {kk:Int} {t:List UInt8} {n:Int} {l:List Nd}:depthI (k+1) (.mk kk t n l)=accD k l l.length+1:=by
 rw[depthI,depthN,accD,List.take_length];simp
def digB1 (n:Nat):ByteArray:=ofL [UInt8.ofNat (48+n)]
theorem digB1_eq {n:Nat} (h:n<10):digB1 n=digitB.extract n (n+1):=by
 have:∀ k:Fin 10,digB1 k.val=digitB.extract k.val (k.val+1):=by decide +kernel
 exact this ⟨n,h⟩
theorem digN_lt {n:Nat} (h:n<10):ofL (digN n)=digB1 n:=by rw[digN,if_pos h];rfl
theorem digN_ge {n:Nat} (h:¬ n<10):ofL (digN n)=ofL (digN (n / 10))++ofL (digN (n % 10)):=by
 have e:digN (n % 10)=[UInt8.ofNat (48+n % 10)]:=by rw[digN,if_pos (by omega)]
 rw[digN,if_neg h,e]
 exact eq_of_toL (by simp [ofL])
theorem nameL_or (w:List UInt8):nameL w=true ↔ (ofL w=⟨#[110,111,114,109]⟩∨ofL w=⟨#[99,111,110,106]⟩∨ofL w=⟨#[116,117,114,110]⟩∨ofL w=⟨#[108,111,119]⟩∨ofL w=⟨#[104,101,97,100]⟩):=by
 rw[← nameL_in]
 simp only [inS,names5,List.any_cons,List.any_nil,Bool.or_false,Bool.or_eq_true,decide_eq_true_eq]
theorem rname_fn (O:Opq) (w:List UInt8):Fn prog 118 [.str (O.o ofL w)] [] [.bool (O.o nameL w)] []:=by
 have hB:=nameL_or w
 rw[show nameL w=O.o nameL w by rw[O.h],show ofL w=O.o ofL w by rw[O.h]] at hB
 obtain⟨S,hS⟩:∃ S,S=O.o ofL w:=⟨_,rfl⟩
 obtain⟨B,eB⟩:∃ B,B=O.o nameL w:=⟨_,rfl⟩
 rw[← hS,← eB] at hB
 rw[← hS,← eB]
 clear hS eB
 cases B
 all_goals
  refine go (fn:=Proofs.Tryz.f118) (n:=20) (rv:=[ResultVar.tmp 2]) rfl (by decide) rfl (by decide +kernel) rfl rfl (by simp) fun F L C=>?_
  cbv
  (repeat' first|(refine Br.t ?_ ?_;(focus first|assumption|lia);cbv)|(refine Br.f ?_ ?_;(focus first|assumption|lia);cbv)|(refine Br.mk (fun _=>?_) (fun _=>?_)<;>cbv)|(refine R0 ?_;cbv))
  all_goals first
   | exact⟨rfl,trivial⟩
   | (exfalso;simp_all;done)
   | trace_state
theorem isD_int {d:UInt8}:isD d=true ↔ 48≤(d.toNat:Int)∧(d.toNat:Int)≤57:=by
 simp only [isD,Bool.and_eq_true,decide_eq_true_eq]
 generalize d.toNat=k
 omega
theorem rplain_fn (O:Opq) (s:List UInt8) (hl:s.length≤1000000):Fn prog 119 [.str (O.o ofL s)] [] [.bool (O.o plainL s)] []:=by
 have hsz:(O.o ofL s).size=s.length:=by rw[O.h,size_ofL]
 obtain⟨S,hS⟩:∃ S,S=O.o ofL s:=⟨_,rfl⟩
 obtain⟨z,hz⟩:∃ z:Nat,z=0:=⟨_,rfl⟩
 obtain⟨N,hN⟩:∃ N:Nat,N=s.length:=⟨_,rfl⟩
 have hb:∀ i:Nat,byteAt S i=((s.getD i 0).toNat:Int):=fun i=>by rw[hS,O.h,byteAt_ofL]
 rw[← hS] at hsz ⊢
 clear hS
 refine go (fn:=Proofs.Tryz.f119) (n:=19) (rv:=[ResultVar.tmp 2]) rfl (by decide) rfl (by decide +kernel) rfl rfl (by simp) fun F L C=>?_
 cbv
 skip
 refine LoopThen.mk (C.loopAt (ι:=Nat) [(2,19)] (fun i=>[(3,.int .i64 i)]) (fun _=>[])
  (fun i=>i≤s.length∧∀ (j:Nat) c,j<i→s[j]?=some c→isD c=true) (fun i=>N-i) (by decide +kernel) (Start.mk z [] [] ⟨by omega,fun j x hj=>by omega⟩ (by cbv;(repeat' apply And.intro)<;>first|exact True.intro|exact WkR.refl _|rfl|lia)) ?_)
 intro i g
 cbv
 have g1:i≤s.length:=g.1
 have g2:=g.2
 clear g
 by_cases hk:i<s.length
 ·have hx:=getD_some hk
  have hv:=hb i
  have hD:isD (s.getD i 0)=true ↔ 48≤byteAt S i∧byteAt S i≤57:=by rw[hv];exact isD_int
  have hno:¬ (48≤byteAt S i∧byteAt S i≤57)→O.o plainL s=false:=fun h=>by
   rw[O.h,plainL,List.all_eq_false]
   exact⟨_,List.mem_of_getElem? hx,fun e=>h (hD.1 e)⟩
  have hst:(48≤byteAt S i∧byteAt S i≤57)→∀ (j:Nat) c,j<i+1→s[j]?=some c→isD c=true:=fun h j c hj hy=>by
   by_cases ej:j=i
   ·subst ej;rw[hx] at hy;cases hy;exact hD.2 h
   ·exact g2 j c (by omega) hy
  obtain⟨Q,eQ⟩:∃ Q,Q=O.o plainL s:=⟨_,rfl⟩
  rw[← eQ] at hno ⊢
  clear g2 eQ hx hD hb hv
  (repeat' first|(refine Na ?_ fun _ _=>?_;(focus lia);cbv)|(refine Back.up [] [] ?_ ?_ fun _ _=>?_;rotate_left 2;cbv;refine And.intro ?_ ?_)|(refine Nm fun _ _=>?_;cbv)|(refine Br.t ?_ ?_;(focus first|assumption|lia);cbv)|(refine Br.mk (fun _=>?_) (fun _=>?_)<;>cbv)|(refine Need.mk ?_ ?_;rotate_left;cbv)|(refine R0 ?_;cbv))
  all_goals(repeat' apply And.intro)
  all_goals try first
   | exact True.intro
   | exact WkR.refl _
   | (clear hst hno;lia)
  all_goals first
   | exact hst ⟨by clear hst hno;lia,by clear hst hno;lia⟩
   | (rw[hno (by clear hst hno;lia)])
   | (symm;exact hno (by clear hst hno;lia))
   | trace_state
 ·have hyes:O.o plainL s=true:=by
   rw[O.h,plainL,List.all_eq_true]
   intro c hc
   obtain⟨j,hj,rfl⟩:=List.getElem_of_mem hc
   exact g2 j _ (by omega) (by simp)
  rw[hyes]
  clear g2 hb
  (repeat' first|(refine Nm fun _ _=>?_;cbv)|(refine Br.f ?_ ?_;(focus first|assumption|lia);cbv)|(refine R0 ?_;cbv))
  all_goals first
   | exact⟨rfl,trivial⟩
   | (exfalso;lia)
   | trace_state
theorem rdigits_fn (O:Opq):∀ (n:Nat),n<1000000000000000000→∀ v:Int,v=n→Fn prog 120 [.int .i64 v] [] [.str (O.o ofL (digN n))] []:=by
 intro n
 induction n using Nat.strongRecOn with
 | ind n ih =>
  intro hn v hv
  by_cases h10:n<10
  ·have e1:O.o ofL (digN n)=O.o digB1 n:=by rw[O.h,O.h,digN_lt h10]
   have e2:=digB1_eq h10
   rw[e1,O.h,e2]
   obtain⟨D,hD⟩:∃ D:ByteArray,D=digitB.extract n (n+1):=⟨_,rfl⟩
   rw[← hD]
   unfold digitB at hD
   have hv0:v.toNat=n:=by rw[hv];rfl
   have hv1:∀ b:Int,b=v+1→b.toNat=n+1:=fun b h=>by rw[h,hv];omega
   have hv2:∀ b:Int,b=v+1→0≤v∧v≤b∧b≤10:=fun b h=>by rw[h,hv];omega
   clear ih e1 e2
   refine go (fn:=Proofs.Tryz.f120) (n:=15) (rv:=[ResultVar.tmp 2]) rfl (by decide) rfl (by decide +kernel) rfl rfl (by simp) fun F L C=>?_
   cbv
   (repeat' first|(refine Na ?_ fun _ _=>?_;(focus lia);cbv)|(refine Nm fun _ _=>?_;cbv)|(refine Br.t ?_ ?_;(focus first|assumption|lia);cbv)|(refine Need.mk ?_ ?_;rotate_left;cbv)|(refine R0 ?_;cbv))
   ·rename_i b eb a ea
    exact⟨by rw[ea,hD,hv0,hv1 b eb],trivial⟩
   ·rename_i a ea
    exact hv2 a ea
  ·have e1:O.o ofL (digN n)=O.o ofL (digN (n / 10))++O.o ofL (digN (n % 10)):=by simp only [O.h];exact digN_ge h10
   have k1:=ih (n / 10) (by omega) (by omega) (n / 10:Nat) rfl
   have k2:=ih (n % 10) (by omega) (by omega) (n % 10:Nat) rfl
   have q1:((n / 10:Nat):Int)=v.tdiv 10:=by rw[hv];simp
   have q2:((n % 10:Nat):Int)=v.tmod 10:=by rw[hv,Int.tmod_eq_emod_of_nonneg (by omega)];simp
   rw[e1]
   obtain⟨A,hA⟩:∃ A,A=O.o ofL (digN (n / 10)):=⟨_,rfl⟩
   obtain⟨B,hB⟩:∃ A,A=O.o ofL (digN (n % 10)):=⟨_,rfl⟩
   have h18:∀ m,m≤n→(O.o ofL (digN m)).size≤18:=fun m hm=>by rw[O.h,size_ofL];exact digN_len (by decide) (by omega)
   have hAs:A.size≤18:=by rw[hA];exact h18 _ (by omega)
   have hBs:B.size≤18:=by rw[hB];exact h18 _ (by omega)
   rw[← hA,← hB]
   obtain⟨AB,hAB⟩:∃ AB:ByteArray,AB=A++B:=⟨_,rfl⟩
   rw[← hAB]
   rw[← hA] at k1
   rw[← hB] at k2
   clear ih e1 hA hB h18
   obtain⟨x,hx⟩:∃ x:Int,x=(n / 10:Nat):=⟨_,rfl⟩
   obtain⟨y,hy⟩:∃ x:Int,x=(n % 10:Nat):=⟨_,rfl⟩
   rw[← hx] at k1 q1
   rw[← hy] at k2 q2
   refine go (fn:=Proofs.Tryz.f120) (n:=15) (rv:=[ResultVar.tmp 2]) rfl (by decide) rfl (by decide +kernel) rfl rfl (by simp) fun F L C=>?_
   cbv
   (repeat' first|(refine Na ?_ fun _ _=>?_;(focus lia);cbv)|(refine Br.f ?_ ?_;(focus first|assumption|lia);cbv)|(refine Need.mk ?_ ?_;rotate_left;cbv))
   all_goals try decide
   all_goals try(exfalso;clear k1 k2;lia)
   rename_i a ea
   obtain rfl:a=x:=ea.trans q1.symm
   (repeat' first|(refine CallThen.mk _ _ (C.fn (k1)) ?_;cbv)|(refine Nm fun _ _=>?_;cbv)|(refine Need.mk ?_ ?_;rotate_left;cbv))
   all_goals try decide
   rename_i b eb
   obtain rfl:b=y:=eb.trans q2.symm
   (repeat' first|(refine CallThen.mk _ _ (C.fn (k2)) ?_;cbv)|(refine Nm fun _ _=>?_;cbv)|(refine Need.mk ?_ ?_;rotate_left;cbv)|(refine R0 ?_;cbv))
   all_goals first
    | (rename_i c ec;exact⟨hAB.trans ec.symm,trivial⟩)
    | (clear k1 k2;omega)
    | (exfalso;clear k1 k2;lia)
    | trace_state
end Go.Sym
