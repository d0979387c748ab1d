/- Which expressions are alike (walks). -/
import Derived.Test.YtaedpfkpdeaibaaGreatDoorK24
set_option linter.all false
set_option linter.unusedVariables false
set_option linter.unusedSimpArgs false
namespace Go.Sym
open Go Go.Proofs.Tryz
set_option maxRecDepth 100000
open Classical in
noncomputable def sameN (a b:Nd):Bool:=decide (a=b)
open Classical in
noncomputable def sameL (a b:List Nd):Bool:=decide (a=b)
theorem sameN_iff {a b:Nd}:sameN a b=true ↔ a=b:=by simp [sameN]
theorem sameL_iff {a b:List Nd}:sameL a b=true ↔ a=b:=by simp [sameL]
theorem sameL_no {a b:List Nd} (h:a≠b):sameL a b=false:=by simp [sameL,h]
theorem sameN_mk {k k':Int} {t t':List UInt8} {n n':Int} {l l':List Nd}:sameN (.mk k t n l) (.mk k' t' n' l')=true ↔ k=k'∧t=t'∧n=n'∧sameL l l'=true:=by
 rw[sameN_iff,sameL_iff]
 constructor
 ·intro h;cases h;exact⟨rfl,rfl,rfl,rfl⟩
 ·rintro ⟨rfl,rfl,rfl,rfl⟩;rfl
theorem equalF_fn {O:Opq} {l m:List Nd} (hl:l.length≤100000) (hf:∀ x∈l,∀ y,Fn prog 25 [.agg (x.en O),.agg (y.en O)] [] [.bool (sameN x y)] []) :
  Fn prog 40 [.sl false 0 false 4 (O.o Nds.enc l),.sl false 0 false 4 (O.o Nds.enc m),.fn 25 [] []] [] [.bool (sameL l m)] []:=by
 have hlen:=Nds.en_len O l
 have hlem:=Nds.en_len O m
 obtain⟨Q,eQ⟩:∃ Q,Q=sameL l m:=⟨_,rfl⟩
 have hno:l.length≠m.length→Q=false:=fun h=>by rw[eQ];exact sameL_no fun e=>h (by rw[e])
 have hno2:∀ (i:Nat) x y,l[i]?=some x→m[i]?=some y→sameN x y=false→Q=false:=fun i x y h1 h2 h3=>by
  rw[eQ];refine sameL_no fun e=>?_
  rw[e,h2] at h1
  cases h1
  rw[sameN_iff.2 rfl] at h3;cases h3
 have hyes:l.length=m.length→(∀ (i:Nat) x y,i<l.length→l[i]?=some x→m[i]?=some y→sameN x y=true)→Q=true:=fun h k=>by
  rw[eQ]
  refine sameL_iff.2 (List.ext_getElem h fun i h1 h2=>?_)
  exact sameN_iff.1 (k i _ _ h1 (List.getElem?_eq_getElem h1) (List.getElem?_eq_getElem h2))
 rw[← eQ]
 obtain⟨N,hN⟩:∃ N:Nat,N=l.length:=⟨_,rfl⟩
 obtain⟨M,hM⟩:∃ N:Nat,N=m.length:=⟨_,rfl⟩
 rw[← hN] at hl hlen hno hyes
 rw[← hM] at hlem hno hyes
 obtain⟨z,hz⟩:∃ z:Nat,z=0:=⟨_,rfl⟩
 clear eQ
 by_cases hnm:N=M
 ·have hyes:=hyes hnm
  refine go (fn:=Proofs.Tryz.f40) (n:=29) (rv:=[ResultVar.tmp 6]) rfl (by decide) rfl (by decide +kernel) rfl rfl (by simp) fun F L C=>?_
  cbv
  (repeat' first|(refine Na ?_ fun _ _=>?_;(focus lia);cbv)|(refine Nl fun _ _ hq=>?_;(try simp only [lenS] at hq);cbv)|(refine Nm fun _ _=>?_;cbv)|(refine Br.t ?_ ?_;(focus first|assumption|lia);cbv)|(refine Br.f ?_ ?_;(focus first|assumption|lia);cbv)|(refine Br.mk (fun _=>?_) (fun _=>?_)<;>cbv)|(refine Need.mk ?_ ?_;rotate_left;cbv)|(refine R0 ?_;cbv))
  all_goals try(exfalso;clear hyes hno2 hno hf;lia)
  refine LoopThen.mk (C.loopAt (ι:=Nat) [(6,9),(17,31)] (fun i=>[(17,.int .i64 i)]) (fun _=>[])
   (fun i=>i≤N∧∀ (j:Nat) x y,j<i→l[j]?=some x→m[j]?=some y→sameN x y=true) (fun i=>N-i) (by decide +kernel) (Start.mk z [] [] ⟨by omega,fun j x y hj=>by omega⟩ ?_) ?_)
  ·clear hyes hno hno2 hf
   cbv
   (repeat' apply And.intro)<;>first|exact True.intro|exact WkR.refl _|rfl|lia|trace_state
  intro i g
  cbv
  have g1:i≤N:=g.1
  have g2:=g.2
  clear g hno
  by_cases hi:i<N
  ·obtain⟨x,hx⟩:∃ x,l[i]?=some x:=⟨l[i]'(by omega),List.getElem?_eq_getElem (by omega)⟩
   obtain⟨y,hy⟩:∃ y,m[i]?=some y:=⟨m[i]'(by omega),List.getElem?_eq_getElem (by omega)⟩
   have hc:=hf x (List.mem_of_getElem? hx) y
   have hst:sameN x y=true→∀ (j:Nat) x y,j<i+1→l[j]?=some x→m[j]?=some y→sameN x y=true:=fun h j x' y' hj h1 h2=>by
    by_cases e:j=i
    ·subst e;rw[hx] at h1;rw[hy] at h2;cases h1;cases h2;exact h
    ·exact g2 j x' y' (by omega) h1 h2
   have hno:=hno2 i x y hx hy
   obtain⟨B,eB⟩:∃ B,B=sameN x y:=⟨_,rfl⟩
   rw[← eB] at hc hst hno
   clear g2 hf hyes hno2 eB
   obtain⟨ak,at',an,al⟩:=x
   obtain⟨bk,bt,bn,bl⟩:=y
   cases B
   ·have hQ:=hno rfl
    subst hQ
    clear hst hno
    (repeat' first|(refine Na ?_ fun _ _=>?_;(focus lia);cbv)|(refine Ex.nd O hx ?_ ?_;(focus(clear hc;lia));cbv)|(refine Ex.nd O hy ?_ ?_;(focus(clear hc;lia));cbv)|(refine CallThen.mk _ _ (C.fn (hc)) ?_;cbv)|(refine Nl fun _ _ hq=>?_;(try simp only [lenS] at hq);cbv)|(refine Nm fun _ _=>?_;cbv)|(refine Br.t ?_ ?_;(focus first|assumption|lia);cbv)|(refine Br.f ?_ ?_;(focus first|assumption|lia);cbv)|(refine Br.mk (fun _=>?_) (fun _=>?_)<;>cbv)|(refine Need.mk ?_ ?_;rotate_left;cbv)|(refine R0 ?_;cbv))
    all_goals first
     | exact⟨rfl,trivial⟩
     | (exfalso;clear hc;lia)
     | trace_state
   ·have hst:=hst rfl
    clear hno
    (repeat' first|(refine Na ?_ fun _ _=>?_;(focus lia);cbv)|(refine Ex.nd O hx ?_ ?_;(focus(clear hc hst;lia));cbv)|(refine Ex.nd O hy ?_ ?_;(focus(clear hc hst;lia));cbv)|(refine CallThen.mk _ _ (C.fn (hc)) ?_;cbv)|(refine Back.up [] [] ?_ ?_ fun _ _=>?_;rotate_left 2;cbv;refine And.intro ?_ ?_)|(refine Nl fun _ _ hq=>?_;(try simp only [lenS] at hq);cbv)|(refine Nm fun _ _=>?_;cbv)|(refine Br.t ?_ ?_;(focus first|assumption|lia);cbv)|(refine Br.f ?_ ?_;(focus first|assumption|lia);cbv)|(refine Br.mk (fun _=>?_) (fun _=>?_)<;>cbv)|(refine Need.mk ?_ ?_;rotate_left;cbv)|(refine R0 ?_;cbv))
    all_goals(repeat' apply And.intro)
    all_goals first
     | exact True.intro
     | exact WkR.refl _
     | rfl
     | exact hst
     | (clear hc hst;lia)
     | trace_state
  ·have hQ:=hyes fun j x y hj=>g2 j x y (by omega)
   subst hQ
   clear g2 hf hno2
   (repeat' first|(refine Na ?_ fun _ _=>?_;(focus lia);cbv)|(refine Nl fun _ _ hq=>?_;(try simp only [lenS] at hq);cbv)|(refine Nm fun _ _=>?_;cbv)|(refine Br.t ?_ ?_;(focus first|assumption|lia);cbv)|(refine Br.f ?_ ?_;(focus first|assumption|lia);cbv)|(refine Br.mk (fun _=>?_) (fun _=>?_)<;>cbv)|(refine Need.mk ?_ ?_;rotate_left;cbv)|(refine R0 ?_;cbv))
   all_goals first
    | exact⟨rfl,trivial⟩
    | (exfalso;lia)
    | trace_state
 ·have hQ:=hno hnm
  subst hQ
  clear hf hno2 hyes hno
  refine go (fn:=Proofs.Tryz.f40) (n:=29) (rv:=[ResultVar.tmp 6]) rfl (by decide) rfl (by decide +kernel) rfl rfl (by simp) fun F L C=>?_
  cbv
  (repeat' first|(refine Na ?_ fun _ _=>?_;(focus lia);cbv)|(refine Nl fun _ _ hq=>?_;(try simp only [lenS] at hq);cbv)|(refine Nm fun _ _=>?_;cbv)|(refine Br.t ?_ ?_;(focus first|assumption|lia);cbv)|(refine Br.f ?_ ?_;(focus first|assumption|lia);cbv)|(refine Br.mk (fun _=>?_) (fun _=>?_)<;>cbv)|(refine Need.mk ?_ ?_;rotate_left;cbv)|(refine R0 ?_;cbv))
  all_goals first
   | exact⟨rfl,trivial⟩
   | (exfalso;lia)
   | trace_state
theorem esame_fn (O:Opq) {a:Nd} (ha:NdB 100000 a):∀ b,Fn prog 25 [.agg (a.en O),.agg (b.en O)] [] [.bool (sameN a b)] []:=by
 induction ha with
 | @mk k t n l hl _ ih =>
 rintro ⟨k',t',n',l'⟩
 have hc:=equalF_fn (O:=O) (l:=l) (m:=l') hl ih
 have hQ:=@sameN_mk k k' t t' n n' l l'
 have hE:O.o ofL t=O.o ofL t' ↔ t=t':=by rw[O.h];exact ofL_inj
 obtain⟨Q,eQ⟩:∃ Q,Q=sameN (.mk k t n l) (.mk k' t' n' l'):=⟨_,rfl⟩
 obtain⟨D,eD⟩:∃ Q,Q=sameL l l':=⟨_,rfl⟩
 obtain⟨T,eT⟩:∃ T,T=O.o ofL t:=⟨_,rfl⟩
 obtain⟨T',eT'⟩:∃ T,T=O.o ofL t':=⟨_,rfl⟩
 rw[← eQ] at hQ ⊢
 rw[← eD] at hQ hc
 rw[← eT,← eT'] at hE
 rw[← hE] at hQ
 show Fn prog 25 [.agg [.int .i64 k,.str (O.o ofL t),.int .i64 n,.sl false 0 false 4 (O.o Nds.enc l)],.agg [.int .i64 k',.str (O.o ofL t'),.int .i64 n',.sl false 0 false 4 (O.o Nds.enc l')]] [] [.bool Q] []
 rw[← eT,← eT']
 clear ih eQ eD hE eT eT'
 cases Q
 ·have hQ:¬ (k=k'∧T=T'∧n=n'∧D=true):=fun h=>by cases hQ.2 h
  refine go (fn:=Proofs.Tryz.f25) (n:=29) (rv:=[ResultVar.tmp 4]) rfl (by decide) rfl (by decide +kernel) rfl rfl (by simp) fun F L C=>?_
  cbv
  (repeat' first|(refine Na ?_ fun _ _=>?_;(focus lia);cbv)|(refine CallThen.bool (C.fn (hc)) (fun _=>?_) (fun _=>?_)<;>cbv)|(refine Nl fun _ _ hq=>?_;(try simp only [lenS] at hq);cbv)|(refine Nm fun _ _=>?_;cbv)|(refine Br.t ?_ ?_;(focus first|assumption|lia);cbv)|(refine Br.f ?_ ?_;(focus first|assumption|lia);cbv)|(refine Br.mk (fun _=>?_) (fun _=>?_)<;>cbv)|(refine Need.mk ?_ ?_;rotate_left;cbv)|(refine R0 ?_;cbv))
  all_goals first
   | exact⟨rfl,trivial⟩
   | (exfalso;clear hc;exact hQ ⟨by assumption,by assumption,by assumption,by assumption⟩)
   | trace_state
 ·obtain⟨h1,h2,h3,h4⟩:=hQ.1 rfl
  refine go (fn:=Proofs.Tryz.f25) (n:=29) (rv:=[ResultVar.tmp 4]) rfl (by decide) rfl (by decide +kernel) rfl rfl (by simp) fun F L C=>?_
  cbv
  (repeat' first|(refine Na ?_ fun _ _=>?_;(focus lia);cbv)|(refine CallThen.bool (C.fn (hc)) (fun _=>?_) (fun _=>?_)<;>cbv)|(refine Nl fun _ _ hq=>?_;(try simp only [lenS] at hq);cbv)|(refine Nm fun _ _=>?_;cbv)|(refine Br.t ?_ ?_;(focus first|assumption|lia);cbv)|(refine Br.f ?_ ?_;(focus first|assumption|lia);cbv)|(refine Br.mk (fun _=>?_) (fun _=>?_)<;>cbv)|(refine Need.mk ?_ ?_;rotate_left;cbv)|(refine R0 ?_;cbv))
  all_goals first
   | exact⟨rfl,trivial⟩
   | (exfalso;rename_i q;rw[h4] at q;cases q)
   | (exfalso;contradiction)
   | trace_state
set_option maxHeartbeats 4000000 in
theorem rsame10_fn (O:Opq) {a:Nd} (ha:NdB 100000 a):∀ b,Fn prog 11 [.agg (a.en O),.agg (b.en O)] [] [.bool (sameN a b)] []:=by
 induction ha with
 | @mk k t n l hl _ ih =>
 rintro ⟨k',t',n',m⟩
 have hQ:=@sameN_mk k k' t t' n n' l m
 have hE:O.o ofL t=O.o ofL t' ↔ t=t':=by rw[O.h];exact ofL_inj
 have hlen:=Nds.en_len O l
 have hlem:=Nds.en_len O m
 obtain⟨Q,eQ⟩:∃ Q,Q=sameN (.mk k t n l) (.mk k' t' n' m):=⟨_,rfl⟩
 obtain⟨T,eT⟩:∃ T,T=O.o ofL t:=⟨_,rfl⟩
 obtain⟨T',eT'⟩:∃ T,T=O.o ofL t':=⟨_,rfl⟩
 rw[← eQ] at hQ ⊢
 rw[← eT,← eT'] at hE
 rw[← hE] at hQ
 have hno0:¬ (k=k'∧T=T'∧n=n'∧l.length=m.length)→Q=false:=fun h=>by
  cases Q with
  | false=>rfl
  | true =>
   obtain⟨h1,h2,h3,h4⟩:=hQ.1 rfl
   exact absurd ⟨h1,h2,h3,by rw[sameL_iff.1 h4]⟩ h
 have hno2:∀ (i:Nat) x y,l[i]?=some x→m[i]?=some y→sameN x y=false→Q=false:=fun i x y h1 h2 h3=>by
  cases Q with
  | false=>rfl
  | true =>
   have:=sameL_iff.1 (hQ.1 rfl).2.2.2
   rw[this,h2] at h1
   cases h1
   rw[sameN_iff.2 rfl] at h3;cases h3
 have hyes:k=k'→T=T'→n=n'→l.length=m.length→(∀ (i:Nat) x y,i<l.length→l[i]?=some x→m[i]?=some y→sameN x y=true)→Q=true:=fun h1 h2 h3 h k=>by
  refine hQ.2 ⟨h1,h2,h3,sameL_iff.2 (List.ext_getElem h fun i h1 h2=>?_)⟩
  exact sameN_iff.1 (k i _ _ h1 (List.getElem?_eq_getElem h1) (List.getElem?_eq_getElem h2))
 obtain⟨N,hN⟩:∃ N:Nat,N=l.length:=⟨_,rfl⟩
 obtain⟨M,hM⟩:∃ N:Nat,N=m.length:=⟨_,rfl⟩
 rw[← hN] at hl hlen hno0 hyes
 rw[← hM] at hlem hno0 hyes
 obtain⟨z,hz⟩:∃ z:Nat,z=0:=⟨_,rfl⟩
 show Fn prog 11 [.agg [.int .i64 k,.str (O.o ofL t),.int .i64 n,.sl false 0 false 4 (O.o Nds.enc l)],.agg [.int .i64 k',.str (O.o ofL t'),.int .i64 n',.sl false 0 false 4 (O.o Nds.enc m)]] [] [.bool Q] []
 rw[← eT,← eT']
 clear eQ hQ hE eT eT'
 by_cases hall:k=k'∧T=T'∧n=n'∧N=M
 ·obtain⟨rfl,rfl,rfl,hnm⟩:=hall
  have hyes:=hyes rfl rfl rfl hnm
  clear hno0
  refine go (fn:=Proofs.Tryz.f11) (n:=51) (rv:=[ResultVar.tmp 4]) rfl (by decide) rfl (by decide +kernel) rfl rfl (by simp) fun F L C=>?_
  cbv
  (repeat' first|(refine Na ?_ fun _ _=>?_;(focus lia);cbv)|(refine Nl fun _ _ hq=>?_;(try simp only [lenS] at hq);cbv)|(refine Nm fun _ _=>?_;cbv)|(refine Br.t ?_ ?_;(focus first|assumption|lia);cbv)|(refine Br.f ?_ ?_;(focus first|assumption|lia);cbv)|(refine Br.mk (fun _=>?_) (fun _=>?_)<;>cbv)|(refine Need.mk ?_ ?_;rotate_left;cbv)|(refine R0 ?_;cbv))
  all_goals try(exfalso;clear hyes hno2 ih;first|contradiction|lia)
  refine LoopThen.mk (C.loopAt (ι:=Nat) [(4,5),(34,52)] (fun i=>[(5,.int .i64 i)]) (fun _=>[(256,.box [.int .i64 k,.str T,.int .i64 n,.sl false 0 false 4 (O.o Nds.enc l)]),(320,.box [.int .i64 k,.str T,.int .i64 n,.sl false 0 false 4 (O.o Nds.enc m)])])
   (fun i=>i≤N∧∀ (j:Nat) x y,j<i→l[j]?=some x→m[j]?=some y→sameN x y=true) (fun i=>N-i) (by decide +kernel) (Start.mk z [] [] ⟨by omega,fun j x y hj=>by omega⟩ ?_) ?_)
  ·clear hyes hno2 ih
   cbv
   (repeat' apply And.intro)<;>first|exact True.intro|exact WkR.refl _|rfl|lia|trace_state
  intro i g
  cbv
  have g1:i≤N:=g.1
  have g2:=g.2
  clear g
  by_cases hi:i<N
  ·obtain⟨x,hx⟩:∃ x,l[i]?=some x:=⟨l[i]'(by omega),List.getElem?_eq_getElem (by omega)⟩
   obtain⟨y,hy⟩:∃ y,m[i]?=some y:=⟨m[i]'(by omega),List.getElem?_eq_getElem (by omega)⟩
   have hc:=ih x (List.mem_of_getElem? hx) y
   have hst:sameN x y=true→∀ (j:Nat) x y,j<i+1→l[j]?=some x→m[j]?=some y→sameN x y=true:=fun h j x' y' hj h1 h2=>by
    by_cases e:j=i
    ·subst e;rw[hx] at h1;rw[hy] at h2;cases h1;cases h2;exact h
    ·exact g2 j x' y' (by omega) h1 h2
   have hno:=hno2 i x y hx hy
   obtain⟨B,eB⟩:∃ B,B=sameN x y:=⟨_,rfl⟩
   rw[← eB] at hc hst hno
   clear g2 ih hyes hno2 eB
   obtain⟨ak,at',an,al⟩:=x
   obtain⟨bk,bt,bn,bl⟩:=y
   cases B
   ·have hQ:=hno rfl
    subst hQ
    clear hst hno
    (repeat' first|(refine Na ?_ fun _ _=>?_;(focus lia);cbv)|(refine Ex.nd O hx ?_ ?_;(focus(clear hc;lia));cbv)|(refine Ex.nd O hy ?_ ?_;(focus(clear hc;lia));cbv)|(refine CallThen.mk _ _ (C.fn (hc)) ?_;cbv)|(refine Nl fun _ _ hq=>?_;(try simp only [lenS] at hq);cbv)|(refine Nm fun _ _=>?_;cbv)|(refine Br.t ?_ ?_;(focus first|assumption|lia);cbv)|(refine Br.f ?_ ?_;(focus first|assumption|lia);cbv)|(refine Br.mk (fun _=>?_) (fun _=>?_)<;>cbv)|(refine Need.mk ?_ ?_;rotate_left;cbv)|(refine R0 ?_;cbv))
    all_goals first
     | exact⟨rfl,trivial⟩
     | (exfalso;clear hc;lia)
     | trace_state
   ·have hst:=hst rfl
    clear hno
    (repeat' first|(refine Na ?_ fun _ _=>?_;(focus lia);cbv)|(refine Ex.nd O hx ?_ ?_;(focus(clear hc hst;lia));cbv)|(refine Ex.nd O hy ?_ ?_;(focus(clear hc hst;lia));cbv)|(refine CallThen.mk _ _ (C.fn (hc)) ?_;cbv)|(refine Back.up [] [] ?_ ?_ fun _ _=>?_;rotate_left 2;cbv;refine And.intro ?_ ?_)|(refine Nl fun _ _ hq=>?_;(try simp only [lenS] at hq);cbv)|(refine Nm fun _ _=>?_;cbv)|(refine Br.t ?_ ?_;(focus first|assumption|lia);cbv)|(refine Br.f ?_ ?_;(focus first|assumption|lia);cbv)|(refine Br.mk (fun _=>?_) (fun _=>?_)<;>cbv)|(refine Need.mk ?_ ?_;rotate_left;cbv)|(refine R0 ?_;cbv))
    all_goals(repeat' apply And.intro)
    all_goals first
     | exact True.intro
     | exact WkR.refl _
     | rfl
     | exact hst
     | (clear hc hst;lia)
     | trace_state
  ·have hQ:=hyes fun j x y hj=>g2 j x y (by omega)
   subst hQ
   clear g2 ih hno2
   (repeat' first|(refine Na ?_ fun _ _=>?_;(focus lia);cbv)|(refine Nl fun _ _ hq=>?_;(try simp only [lenS] at hq);cbv)|(refine Nm fun _ _=>?_;cbv)|(refine Br.t ?_ ?_;(focus first|assumption|lia);cbv)|(refine Br.f ?_ ?_;(focus first|assumption|lia);cbv)|(refine Br.mk (fun _=>?_) (fun _=>?_)<;>cbv)|(refine Need.mk ?_ ?_;rotate_left;cbv)|(refine R0 ?_;cbv))
   all_goals first
    | exact⟨rfl,trivial⟩
    | (exfalso;lia)
    | trace_state
 ·have hQ:=hno0 hall
  subst hQ
  clear ih hno2 hyes hno0
  refine go (fn:=Proofs.Tryz.f11) (n:=51) (rv:=[ResultVar.tmp 4]) rfl (by decide) rfl (by decide +kernel) rfl rfl (by simp) fun F L C=>?_
  cbv
  (repeat' first|(refine Na ?_ fun _ _=>?_;(focus lia);cbv)|(refine Nl fun _ _ hq=>?_;(try simp only [lenS] at hq);cbv)|(refine Nm fun _ _=>?_;cbv)|(refine Br.t ?_ ?_;(focus first|assumption|lia);cbv)|(refine Br.f ?_ ?_;(focus first|assumption|lia);cbv)|(refine Br.mk (fun _=>?_) (fun _=>?_)<;>cbv)|(refine Need.mk ?_ ?_;rotate_left;cbv)|(refine R0 ?_;cbv))
  all_goals first
   | exact⟨rfl,trivial⟩
   | (exfalso;clear hall;contradiction)
   | (exfalso;exact hall ⟨by assumption,by assumption,by assumption,by lia⟩)
   | trace_state
open Classical in
noncomputable def sameVs (a b:List Val):Bool:=decide (a=b)
theorem sameVs_no {a b:List Val} (h:a≠b):sameVs a b=false:=by simp [sameVs,h]
theorem sameVs_iff {a b:List Val}:sameVs a b=true ↔ a=b:=by simp [sameVs]
theorem Vals.en_len (O:Opq) (l:List Val):(O.o Vals.enc l).length=l.length:=by rw[O.h,Vals.enc_len]
theorem Ex.val (O:Opq) {l:List Val} {k:Nat} {x:Val} (hx:l[k]?=some x) {i:Int} {K:List PV→Prop} (hi:i=k) (h:K x.enc):Ex (List PV) (fun row=>0≤i∧(O.o Vals.enc l)[i.toNat]?=some row) K :=
 .mk x.enc ⟨by omega,by rw[O.h,hi,Int.toNat_natCast,Vals.enc,List.getElem?_map,hx];rfl⟩ h
theorem rvsame_fn (O:Opq) {l m:List Val} (hl:l.length≤1000000000):Fn prog 20 [.sl false 0 false 5 (O.o Vals.enc l),.sl false 0 false 5 (O.o Vals.enc m)] [] [.bool (sameVs l m)] []:=by
 have hlen:=Vals.en_len O l
 have hlem:=Vals.en_len O m
 obtain⟨Q,eQ⟩:∃ Q,Q=sameVs l m:=⟨_,rfl⟩
 have hno:l.length≠m.length→Q=false:=fun h=>by rw[eQ];exact sameVs_no fun e=>h (by rw[e])
 have hno2:∀ (i:Nat) x y,l[i]?=some x→m[i]?=some y→x≠y→Q=false:=fun i x y h1 h2 h3=>by
  rw[eQ];refine sameVs_no fun e=>?_
  rw[e,h2] at h1
  cases h1
  exact h3 rfl
 have hyes:l.length=m.length→(∀ (i:Nat) x y,i<l.length→l[i]?=some x→m[i]?=some y→x=y)→Q=true:=fun h k=>by
  rw[eQ]
  refine sameVs_iff.2 (List.ext_getElem h fun i h1 h2=>?_)
  exact k i _ _ h1 (List.getElem?_eq_getElem h1) (List.getElem?_eq_getElem h2)
 rw[← eQ]
 obtain⟨N,hN⟩:∃ N:Nat,N=l.length:=⟨_,rfl⟩
 obtain⟨M,hM⟩:∃ N:Nat,N=m.length:=⟨_,rfl⟩
 rw[← hN] at hl hlen hno hyes
 rw[← hM] at hlem hno hyes
 obtain⟨z,hz⟩:∃ z:Nat,z=0:=⟨_,rfl⟩
 clear eQ
 refine go (fn:=Proofs.Tryz.f20) (n:=30) (rv:=[ResultVar.tmp 4]) rfl (by decide) rfl (by decide +kernel) rfl rfl (by simp) fun F L C=>?_
 cbv
 (repeat' first|(refine Na ?_ fun _ _=>?_;(focus lia);cbv)|(refine Nl fun _ _ hq=>?_;(try simp only [lenS] at hq);cbv)|(refine Nm fun _ _=>?_;cbv)|(refine Br.t ?_ ?_;(focus first|assumption|lia);cbv)|(refine Br.f ?_ ?_;(focus first|assumption|lia);cbv)|(refine Br.mk (fun _=>?_) (fun _=>?_)<;>cbv)|(refine Need.mk ?_ ?_;rotate_left;cbv)|(refine R0 ?_;cbv))
 refine LoopThen.mk (C.loopAt (ι:=Nat) [(4,26)] (fun i=>[(5,.int .i64 i)]) (fun _=>[])
  (fun i=>i≤N∧i≤M∧∀ (j:Nat) x y,j<i→l[j]?=some x→m[j]?=some y→x=y) (fun i=>N-i) (by decide +kernel) (Start.mk z [] [] ⟨by omega,by omega,fun j x y hj=>by omega⟩ ?_) ?_)
 ·clear hyes hno hno2
  cbv
  (repeat' apply And.intro)<;>first|exact True.intro|exact WkR.refl _|rfl|lia|trace_state
 intro i g
 cbv
 have g1:i≤N:=g.1
 have g0:i≤M:=g.2.1
 have g2:=g.2.2
 clear g
 by_cases hi:i<N∧i<M
 ·obtain⟨x,hx⟩:∃ x,l[i]?=some x:=⟨l[i]'(by omega),List.getElem?_eq_getElem (by omega)⟩
  obtain⟨y,hy⟩:∃ y,m[i]?=some y:=⟨m[i]'(by omega),List.getElem?_eq_getElem (by omega)⟩
  have hst:x=y→∀ (j:Nat) x y,j<i+1→l[j]?=some x→m[j]?=some y→x=y:=fun h j x' y' hj h1 h2=>by
   by_cases e:j=i
   ·subst e;rw[hx] at h1;rw[hy] at h2;cases h1;cases h2;exact h
   ·exact g2 j x' y' (by omega) h1 h2
  have hno:=hno2 i x y hx hy
  have hij:=@Val.enc_inj x y
  clear g2 hyes hno2
  by_cases e:x=y
  ·replace hst:=hst e
   subst e
   clear hno hij
   obtain⟨x1,x2,x3,x4,x5⟩:=x
   (repeat' first|(refine Br.t rfl ?_;cbv)|(refine Na ?_ fun _ _=>?_;(focus lia);cbv)|(refine Ex.val O hx ?_ ?_;(focus(clear hst;lia));cbv)|(refine Ex.val O hy ?_ ?_;(focus(clear hst;lia));cbv)|(refine Back.up [] [] ?_ ?_ fun _ _=>?_;rotate_left 2;cbv;refine And.intro ?_ ?_)|(refine Nl fun _ _ hq=>?_;(try simp only [lenS] at hq);cbv)|(refine Nm fun _ _=>?_;cbv)|(refine Br.t ?_ ?_;(focus first|assumption|lia);cbv)|(refine Br.f ?_ ?_;(focus first|assumption|lia);cbv)|(refine Br.mk (fun _=>?_) (fun _=>?_)<;>cbv)|(refine Need.mk ?_ ?_;rotate_left;cbv)|(refine R0 ?_;cbv))
   all_goals(repeat' apply And.intro)
   all_goals first
    | exact True.intro
    | exact WkR.refl _
    | rfl
    | exact hst
    | (clear hst;lia)
    | trace_state
  ·have hQ:=hno e
   have hne:¬ x.enc=y.enc:=fun h=>e (hij.1 h)
   subst hQ
   clear hst hno hij e
   obtain⟨x1,x2,x3,x4,x5⟩:=x
   obtain⟨y1,y2,y3,y4,y5⟩:=y
   have hne:¬ [PV.int .i64 x1,.int .i64 x2,.str x3,.int .i64 x4,.int .i64 x5]=[PV.int .i64 y1,.int .i64 y2,.str y3,.int .i64 y4,.int .i64 y5]:=hne
   (repeat' first|(refine Br.f hne ?_;cbv)|(refine Na ?_ fun _ _=>?_;(focus lia);cbv)|(refine Ex.val O hx ?_ ?_;(focus(clear hne;lia));cbv)|(refine Ex.val O hy ?_ ?_;(focus(clear hne;lia));cbv)|(refine Nl fun _ _ hq=>?_;(try simp only [lenS] at hq);cbv)|(refine Nm fun _ _=>?_;cbv)|(refine Br.t ?_ ?_;(focus first|assumption|lia);cbv)|(refine Br.f ?_ ?_;(focus first|assumption|lia);cbv)|(refine Br.mk (fun _=>?_) (fun _=>?_)<;>cbv)|(refine Need.mk ?_ ?_;rotate_left;cbv)|(refine R0 ?_;cbv))
   all_goals first
    | exact⟨rfl,trivial⟩
    | (exfalso;clear hne;lia)
    | trace_state
 ·by_cases hnm:N=M
  ·have hQ:=hyes hnm fun j x y hj=>g2 j x y (by omega)
   subst hQ
   clear g2 hno hno2
   (repeat' first|(refine Na ?_ fun _ _=>?_;(focus lia);cbv)|(refine Nl fun _ _ hq=>?_;(try simp only [lenS] at hq);cbv)|(refine Nm fun _ _=>?_;cbv)|(refine Br.t ?_ ?_;(focus first|assumption|lia);cbv)|(refine Br.f ?_ ?_;(focus first|assumption|lia);cbv)|(refine Br.mk (fun _=>?_) (fun _=>?_)<;>cbv)|(refine Need.mk ?_ ?_;rotate_left;cbv)|(refine R0 ?_;cbv))
   all_goals first
    | exact⟨rfl,trivial⟩
    | (exfalso;lia)
    | trace_state
  ·have hQ:=hno hnm
   subst hQ
   clear g2 hno hno2 hyes
   (repeat' first|(refine Na ?_ fun _ _=>?_;(focus lia);cbv)|(refine Nl fun _ _ hq=>?_;(try simp only [lenS] at hq);cbv)|(refine Nm fun _ _=>?_;cbv)|(refine Br.t ?_ ?_;(focus first|assumption|lia);cbv)|(refine Br.f ?_ ?_;(focus first|assumption|lia);cbv)|(refine Br.mk (fun _=>?_) (fun _=>?_)<;>cbv)|(refine Need.mk ?_ ?_;rotate_left;cbv)|(refine R0 ?_;cbv))
   all_goals first
    | exact⟨rfl,trivial⟩
    | (exfalso;lia)
    | trace_state
end Go.Sym
