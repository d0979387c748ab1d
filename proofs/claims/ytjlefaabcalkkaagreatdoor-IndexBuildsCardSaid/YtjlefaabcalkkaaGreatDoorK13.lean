/- Which expressions may be (walks): the program's. -/
import Derived.Test.YtjlefaabcalkkaaGreatDoorK12
set_option linter.all false
set_option linter.unusedVariables false
set_option linter.unusedSimpArgs false
namespace Go.Sym
open Go Go.Proofs.Tryz
set_option maxRecDepth 100000
inductive NdS:Nd→Prop
 | mk {k:Int} {t:List UInt8} {n:Int} {l:List Nd} (h:l.length≤3000) (ht:t.length≤3000) (ih:∀ a∈l,NdS a):NdS (.mk k t n l)
theorem NdS.len {k:Int} {t:List UInt8} {n:Int} {l:List Nd} (h:NdS (.mk k t n l)):l.length≤3000:=by cases h;assumption
theorem NdS.txt {k:Int} {t:List UInt8} {n:Int} {l:List Nd} (h:NdS (.mk k t n l)):t.length≤3000:=by cases h;assumption
theorem NdS.arg {k:Int} {t:List UInt8} {n:Int} {l:List Nd} (h:NdS (.mk k t n l)):∀ a∈l,NdS a:=by cases h;assumption
theorem NdS.b {x:Nd} (h:NdS x):NdB 100000 x:=by
 induction h with
 | mk h ht _ ih=>exact .mk (by omega) ih
open Classical in
noncomputable def madeD (x:Nd):Bool:=decide (Made x)
noncomputable def nmade (x:Nd):Bool:=!madeD x
theorem madeD_iff {x:Nd}:madeD x=true ↔ Made x:=by simp [madeD]
theorem made_iff {k:Int} {t:List UInt8} {n:Int} {l:List Nd}:Made (.mk k t n l) ↔ madeB (.mk k t n l)=true∧l.any nmade=false:=by
 constructor
 ·rintro ⟨h,k⟩
  refine⟨h,?_⟩
  rw[List.any_eq_false]
  intro a ha
  simp [nmade,madeD_iff.2 (k a ha)]
 ·rintro ⟨h,k⟩
  refine .mk h fun a ha=>?_
  have:=List.any_eq_false.1 k a ha
  simp only [nmade,Bool.not_eq_true,Bool.not_eq_false'] at this
  exact madeD_iff.1 this
theorem madeB_iff {k:Int} {t:List UInt8} {n:Int} {l:List Nd}:madeB (.mk k t n l)=true ↔ (k=1∧n=0∧l.length=0∧pathL t=true∧plainL t=false)∨(k=2∧0≤n∧n<1000000000000000∧l.length=0∧t=[]) ∨
  ((k=3∨k=4)∧n=0∧l.length=2∧t=[])∨(k=5∧n=0∧l.length=1∧nameL t=true):=by
 change (if k=1 then decide (n=0) && l.isEmpty && pathL t && !plainL t
  else if k=2 then decide (0≤n∧n<1000000000000000) && l.isEmpty && t.isEmpty
  else if k=3∨k=4 then decide (n=0) && decide (l.length=2) && t.isEmpty
  else if k=5 then decide (n=0) && decide (l.length=1) && nameL t
  else false)=true ↔ _
 by_cases e1:k=1
 ·rw[if_pos e1];subst e1;simp [and_assoc]
 rw[if_neg e1]
 by_cases e2:k=2
 ·rw[if_pos e2];subst e2;simp [and_assoc]
 rw[if_neg e2]
 by_cases e3:k=3∨k=4
 ·rw[if_pos e3];rcases e3 with rfl|rfl<;>simp [and_assoc]
 rw[if_neg e3]
 by_cases e5:k=5
 ·rw[if_pos e5];subst e5;simp [and_assoc]
 ·rw[if_neg e5];simp [e1,e2,e3,e5]
theorem pureF_fn {O:Opq} {x:Nd} (h:Fn prog 141 [.agg (x.en O)] [] [.bool (O.o madeD x)] []):Fn prog 160 [.agg (x.en O)] [] [.bool (O.o nmade x)] []:=by
 have e:O.o nmade x=!(O.o madeD x):=by rw[O.h,O.h];rfl
 rw[e]
 obtain⟨B,eB⟩:∃ B,B=O.o madeD x:=⟨_,rfl⟩
 rw[← eB] at h ⊢
 obtain⟨kk,t,n,l⟩:=x
 clear eB e
 cases B
 all_goals
  refine go (fn:=Proofs.Tryz.f160) (n:=5) (rv:=[ResultVar.tmp 2]) rfl (by decide) rfl (by decide +kernel) rfl rfl (by simp) fun F L C=>?_
  cbv
  (repeat' first|(refine CallThen.mk _ _ (C.fn (h)) ?_;cbv)|(refine R0 ?_;cbv))
  all_goals first
   | exact⟨rfl,trivial⟩
   | trace_state
theorem indexP_fn {O:Opq} {l:List Nd} (hl:l.length≤100000) (hf:∀ x∈l,Fn prog 160 [.agg (x.en O)] [] [.bool (O.o nmade x)] []) :
  Fn prog 140 [.sl false 0 false 4 (O.o Nds.enc l),.fn 160 [] []] [] [.int .i64 (O.o (findN nmade) l)] []:=by
 have hlen:=Nds.en_len O l
 obtain⟨z,hz⟩:∃ z:Nat,z=0:=⟨_,rfl⟩
 obtain⟨N,hN⟩:∃ N:Nat,N=l.length:=⟨_,rfl⟩
 refine go (fn:=Proofs.Tryz.f140) (n:=17) (rv:=[ResultVar.tmp 4]) rfl (by decide) rfl (by decide +kernel) rfl rfl (by simp) fun F L C=>?_
 cbv
 (repeat' first|(refine Nm fun _ _=>?_;cbv))
 refine LoopThen.mk (C.loopAt (ι:=Nat) [(4,5),(8,18)] (fun k=>[(4,.int .i64 0),(8,.int .i64 k)]) (fun _=>[])
  (fun i=>i≤l.length∧∀ (j:Nat) x,j<i→l[j]?=some x→nmade x=false) (fun i=>N-i) (by decide +kernel) (Start.mk z [] [] ⟨by omega,fun j x hj=>by omega⟩ (by cbv;(repeat' apply And.intro)<;>first|exact True.intro|exact WkR.refl _|rfl|lia)) ?_)
 intro i g
 cbv
 have g1:i≤l.length:=g.1
 have g2:=g.2
 clear g
 by_cases hk:i<l.length
 ·obtain⟨x,hx⟩:∃ x,l[i]?=some x:=⟨l[i],by simp [hk]⟩
  have hc:=hf x (List.mem_of_getElem? hx)
  have hyes:O.o nmade x=true→O.o (findN nmade) l=i:=fun e=>by rw[O.h] at e ⊢;exact findN_at hx e g2
  have hst:O.o nmade x=false→∀ (j:Nat) y,j<i+1→l[j]?=some y→nmade y=false:=fun h j y hj hy=>by
   by_cases ej:j=i
   ·subst ej;rw[hx] at hy;cases hy;rwa [O.h] at h
   ·exact g2 j y (by omega) hy
  obtain⟨Q,eQ⟩:∃ Q,Q=O.o (findN nmade) l:=⟨_,rfl⟩
  obtain⟨B,eB⟩:∃ B,B=O.o nmade x:=⟨_,rfl⟩
  rw[← eQ] at hyes ⊢
  rw[← eB] at hyes hst hc
  obtain⟨kk,t,n,la⟩:=x
  clear g2 eQ hf eB
  (repeat' first|(refine Na ?_ fun _ _=>?_;(focus lia);cbv)|(refine Ex.nd O hx ?_ ?_;(focus lia);cbv)|(refine CallThen.bool (C.fn (hc)) (fun _=>?_) (fun _=>?_)<;>cbv)|(refine Back.up [] [] ?_ ?_ fun _ _=>?_;rotate_left 2;cbv;refine And.intro ?_ ?_)|(refine Br.t ?_ ?_;(focus first|assumption|lia);cbv)|(refine R0 ?_;cbv))
  all_goals(repeat' apply And.intro)
  all_goals try first
   | exact True.intro
   | exact WkR.refl _
   | (clear hx hst hyes hc;lia)
  all_goals first
   | exact hst (by assumption)
   | (rw[hyes (by assumption)];clear hx hst hyes hc;lia)
   | trace_state
 ·have hno:O.o (findN nmade) l=-1:=by rw[O.h];exact findN_no fun j x hj hx=>g2 j x (by omega) hx
  rw[hno]
  clear g2 hf
  (repeat' first|(refine Br.f ?_ ?_;(focus first|assumption|lia);cbv)|(refine R0 ?_;cbv))
  all_goals first
   | exact⟨rfl,trivial⟩
   | (exfalso;lia)
   | trace_state
theorem containsP_fn {O:Opq} {l:List Nd} (h:Fn prog 140 [.sl false 0 false 4 (O.o Nds.enc l),.fn 160 [] []] [] [.int .i64 (O.o (findN nmade) l)] []) :
  Fn prog 106 [.sl false 0 false 4 (O.o Nds.enc l),.fn 160 [] []] [] [.bool (O.o (fun l=>l.any nmade) l)] []:=by
 have hi:(0≤O.o (findN nmade) l ↔ O.o (fun l:List Nd=>l.any nmade) l=true):=by rw[O.h,O.h];exact findN_ge _ l
 obtain⟨Q,eQ⟩:∃ Q,Q=O.o (findN nmade) l:=⟨_,rfl⟩
 rw[← eQ] at h hi
 obtain⟨B,eB⟩:∃ Q,Q=O.o (fun l:List Nd=>l.any nmade) l:=⟨_,rfl⟩
 rw[← eB] at hi ⊢
 clear eQ eB
 cases B
 all_goals
  refine go (fn:=Proofs.Tryz.f106) (n:=7) (rv:=[ResultVar.tmp 4]) rfl (by decide) rfl (by decide +kernel) rfl rfl (by simp) fun F L C=>?_
  cbv
  (repeat' first|(refine CallThen.mk _ _ (C.fn (h)) ?_;cbv)|(refine Br.t ?_ ?_;(focus first|assumption|lia);cbv)|(refine Br.f ?_ ?_;(focus first|assumption|lia);cbv)|(refine R0 ?_;cbv))
  all_goals first
   | exact⟨rfl,trivial⟩
   | (exfalso;simp at hi;clear h;lia)
   | trace_state
set_option maxHeartbeats 4000000 in
theorem epure_fn (O:Opq) {x:Nd} (hx:NdS x):Fn prog 141 [.agg (x.en O)] [] [.bool (O.o madeD x)] []:=by
  induction hx with
  | @mk k t n l hl ht _ ih =>
  have hc:=containsP_fn (indexP_fn (O:=O) (l:=l) (by omega) fun x hx=>pureF_fn (ih x hx))
  have k1:=path_fn O (O.o ofL t)
  rw[show O.o isPath (O.o ofL t)=pathL t by simp only [O.h];exact isPath_L t] at k1
  have k2:=number_fn O t (by omega)
  have k3:=name_fn O t
  rw[show O.o plainL t=plainL t by rw[O.h]] at k2
  rw[show O.o nameL t=nameL t by rw[O.h]] at k3
  rw[show O.o (fun l:List Nd=>l.any nmade) l=l.any nmade by rw[O.h]] at hc
  have hQ:madeD (.mk k t n l)=true ↔ madeB (.mk k t n l)=true∧l.any nmade=false:=madeD_iff.trans made_iff
  rw[madeB_iff] at hQ
  have hE:O.o ofL t=ByteArray.empty ↔ t=[]:=by rw[O.h];exact ofL_emp
  have hlen:=Nds.en_len O l
  rw[O.h madeD]
  obtain⟨Q,eQ⟩:∃ Q,Q=madeD (.mk k t n l):=⟨_,rfl⟩
  obtain⟨Pq,eP⟩:∃ Q,Q=pathL t:=⟨_,rfl⟩
  obtain⟨Lq,eL⟩:∃ Q,Q=plainL t:=⟨_,rfl⟩
  obtain⟨Mq,eM⟩:∃ Q,Q=nameL t:=⟨_,rfl⟩
  obtain⟨Cq,eC⟩:∃ Q,Q=l.any nmade:=⟨_,rfl⟩
  obtain⟨T,eT⟩:∃ Q,Q=O.o ofL t:=⟨_,rfl⟩
  obtain⟨N,eN⟩:∃ N,N=l.length:=⟨_,rfl⟩
  rw[← eQ] at hQ ⊢
  rw[← eP] at hQ k1
  rw[← eL] at hQ k2
  rw[← eM] at hQ k3
  rw[← eC] at hQ hc
  rw[← eT] at hE k1 k2 k3
  rw[← eN] at hQ hlen
  rw[← hE] at hQ
  have hC:N=0→Cq=false:=fun h=>by rw[eC];have:l=[]:=List.eq_nil_of_length_eq_zero (by omega);rw[this];rfl
  clear ih eQ eP eL eM eC hE ht hl
  show Fn prog 141 [.agg [.int .i64 k,.str (O.o ofL t),.int .i64 n,.sl false 0 false 4 (O.o Nds.enc l)]] [] [.bool Q] []
  rw[← eT]
  clear eT
  cases Q
  · have hQ:¬ (((k=1∧n=0∧N=0∧Pq=true∧Lq=false)∨(k=2∧0≤n∧n<1000000000000000∧N=0∧T=ByteArray.empty)∨((k=3∨k=4)∧n=0∧N=2∧T=ByteArray.empty)∨(k=5∧n=0∧N=1∧Mq=true))∧Cq=false):=fun h=>by cases hQ.2 h
    refine go (fn:=Proofs.Tryz.f141) (n:=88) (rv:=[ResultVar.tmp 2]) rfl (by decide) rfl (by decide +kernel) rfl rfl (by simp) fun F L C=>?_
    cbv
    (repeat' first|(refine CallThen.bool (C.fn (k1)) (fun _=>?_) (fun _=>?_)<;>cbv)|(refine CallThen.bool (C.fn (k2)) (fun _=>?_) (fun _=>?_)<;>cbv)|(refine CallThen.bool (C.fn (k3)) (fun _=>?_) (fun _=>?_)<;>cbv)|(refine CallThen.bool (C.fn (hc)) (fun _=>?_) (fun _=>?_)<;>cbv)|(refine Nm fun _ _=>?_;cbv)|(refine Br.mk (fun _=>?_) (fun _=>?_)<;>cbv)|(refine R0 ?_;cbv))
    all_goals first
      | exact⟨rfl,trivial⟩
      | (exfalso;clear k1 k2 k3 hc;(try simp only [emp] at *);grind)
      | (exfalso; have hN0 : N = 0 := by (clear k1 k2 k3 hc hQ; lia)
         exact hQ ⟨.inl ⟨by assumption,by assumption,hN0,by assumption,by assumption⟩,by assumption⟩)
      | (exfalso; have hN0 : N = 1 := by (clear k1 k2 k3 hc hQ; lia)
         exact hQ ⟨.inr (.inr (.inr ⟨by assumption,by assumption,hN0,by assumption⟩)),by assumption⟩)
      | trace_state
  · have hQ:=hQ.1 rfl
    refine go (fn:=Proofs.Tryz.f141) (n:=88) (rv:=[ResultVar.tmp 2]) rfl (by decide) rfl (by decide +kernel) rfl rfl (by simp) fun F L C=>?_
    cbv
    (repeat' first|(refine CallThen.bool (C.fn (k1)) (fun _=>?_) (fun _=>?_)<;>cbv)|(refine CallThen.bool (C.fn (k2)) (fun _=>?_) (fun _=>?_)<;>cbv)|(refine CallThen.bool (C.fn (k3)) (fun _=>?_) (fun _=>?_)<;>cbv)|(refine CallThen.bool (C.fn (hc)) (fun _=>?_) (fun _=>?_)<;>cbv)|(refine Nm fun _ _=>?_;cbv)|(refine Br.t ?_ ?_;(focus first|assumption|lia);cbv)|(refine Br.mk (fun _=>?_) (fun _=>?_)<;>cbv)|(refine R0 ?_;cbv))
    all_goals first
      | exact⟨rfl,trivial⟩
      | (exfalso;clear k1 k2 k3 hc;(try simp only [emp] at *);grind)
      | trace_state
theorem rlastX_fn (O:Opq) (s:List UInt8) (c:UInt8) (cv:Int) (hcv:cv=c.toNat) (hc:parV c=0) (hl:s.length≤1000000):Fn prog 116 [.str (O.o ofL s),.int .u8 cv] [] [.int .i64 (O.o (lastI c s) s.length)] []:=by
 have hsz:(O.o ofL s).size=s.length:=by rw[O.h,size_ofL]
 obtain⟨S,hS⟩:∃ S,S=O.o ofL s:=⟨_,rfl⟩
 obtain⟨z,hz⟩:∃ z:Nat,z=0:=⟨_,rfl⟩
 obtain⟨N,hN⟩:∃ N:Nat,N=s.length:=⟨_,rfl⟩
 have hb:∀ i:Nat,byteAt S i=((s.getD i 0).toNat:Int):=fun i=>by rw[hS,O.h,byteAt_ofL]
 have h0:O.o (netI s) z=0:=by rw[O.h,hz];rfl
 have h1:O.o (lastI c s) z=-1:=by rw[O.h,hz];rfl
 have hnet:∀ i,-(s.length:Int)≤O.o (netI s) i∧O.o (netI s) i≤s.length:=fun i=>by rw[O.h];exact netI_abs s i
 rw[← hS] at hsz ⊢
 obtain⟨Q,hQ⟩:∃ Q,Q=O.o (lastI c s) s.length:=⟨_,rfl⟩
 rw[← hQ]
 clear hS
 refine go (fn:=Proofs.Tryz.f116) (n:=35) (rv:=[ResultVar.tmp 4]) rfl (by decide) rfl (by decide +kernel) rfl rfl (by simp) fun F L C=>?_
 cbv
 skip
 refine LoopThen.mk (C.loopAt (ι:=Nat) [(5,35)] (fun i=>[(5,.int .i64 (O.o (netI s) i)),(6,.int .i64 (O.o (lastI c s) i)),(7,.int .i64 i)]) (fun _=>[])
  (fun i=>i≤s.length) (fun i=>N-i) (by decide +kernel) (Start.mk z [] [] (show z≤s.length by omega) ?_) ?_)
 ·cbv
  (repeat' apply And.intro)<;>first|exact True.intro|exact h0.symm|exact h1.symm|exact h0|exact h1|(clear hb hnet;lia)|trace_state
 intro i g
 cbv
 have g1:i≤s.length:=g
 clear g
 by_cases hk:i<s.length
 ·have hv:=hb i
  have hn:=net_cases hk hv
  have ha:=last_cases hc hk hv hcv
  have hx:=hnet i
  rw[show netI s i=O.o (netI s) i by rw[O.h],show netI s (i+1)=O.o (netI s) (i+1) by rw[O.h]] at hn
  rw[show lastI c s i=O.o (lastI c s) i by rw[O.h],show lastI c s (i+1)=O.o (lastI c s) (i+1) by rw[O.h],show netI s (i+1)=O.o (netI s) (i+1) by rw[O.h]] at ha
  obtain⟨N1,hN1⟩:∃ x,x=O.o (netI s) (i+1):=⟨_,rfl⟩
  obtain⟨A1,hA1⟩:∃ x,x=O.o (lastI c s) (i+1):=⟨_,rfl⟩
  rw[← hN1] at hn ha
  rw[← hA1] at ha
  clear hb hnet hv h0 h1 hcv
  (repeat' first|(refine Na ?_ fun _ _=>?_;(focus lia);cbv)|(refine Back.up [] [] ?_ ?_ fun _ _=>?_;rotate_left 2;cbv;refine And.intro ?_ ?_)|(refine Nm fun _ _=>?_;cbv)|(refine Br.t ?_ ?_;(focus first|assumption|lia);cbv)|(refine Br.f ?_ ?_;(focus first|assumption|lia);cbv)|(refine Br.mk (fun _=>?_) (fun _=>?_)<;>cbv)|(refine Need.mk ?_ ?_;rotate_left;cbv))
  all_goals(repeat' apply And.intro)
  all_goals try first
   | exact True.intro
   | exact WkR.refl _
   | (rw[← hN1];clear hN1 hA1;lia)
   | (rw[← hA1];clear hN1 hA1;lia)
   | (clear hN1 hA1;lia)
  all_goals rename_i y ey;subst ey
  all_goals first
   | (refine hN1.symm.trans ?_;clear hN1 hA1;lia)
   | (refine hA1.symm.trans ?_;clear hN1 hA1;lia)
   | (refine Eq.trans ?_ hN1;clear hN1 hA1;lia)
   | (refine Eq.trans ?_ hA1;clear hN1 hA1;lia)
   | (refine hA1.symm.trans ?_;show A1=O.o (lastI c s) i;clear hN1 hA1;lia)
   | trace_state
 ·have e:Q=O.o (lastI c s) i:=by rw[hQ,show i=s.length by omega]
  clear hb hnet hQ
  (repeat' first|(refine Nm fun _ _=>?_;cbv)|(refine Br.f ?_ ?_;(focus first|assumption|lia);cbv)|(refine R0 ?_;cbv))
  all_goals first
   | exact⟨e,trivial⟩
   | exact⟨e.symm,trivial⟩
   | (exfalso;lia)
   | trace_state
theorem rwhole_fn (O:Opq) (s:List UInt8) (hl:s.length≤1000000):Fn prog 117 [.str (O.o ofL s)] [] [.bool (O.o wholeD s)] []:=by
 have hsz:(O.o ofL s).size=s.length:=by rw[O.h,size_ofL]
 obtain⟨S,hS⟩:∃ S,S=O.o ofL s:=⟨_,rfl⟩
 obtain⟨z,hz⟩:∃ z:Nat,z=0:=⟨_,rfl⟩
 obtain⟨N,hN⟩:∃ N:Nat,N=s.length:=⟨_,rfl⟩
 have hb:∀ i:Nat,byteAt S i=((s.getD i 0).toNat:Int):=fun i=>by rw[hS,O.h,byteAt_ofL]
 have h0:O.o (netI s) z=0:=by rw[O.h,hz];rfl
 have hnet:∀ i,-(s.length:Int)≤O.o (netI s) i∧O.o (netI s) i≤s.length:=fun i=>by rw[O.h];exact netI_abs s i
 rw[← hS] at hsz ⊢
 obtain⟨Q,hQ⟩:∃ Q,Q=O.o wholeD s:=⟨_,rfl⟩
 have hQ1:Q=wholeD s:=by rw[hQ,O.h]
 rw[← hQ]
 clear hS hQ
 refine go (fn:=Proofs.Tryz.f117) (n:=38) (rv:=[ResultVar.tmp 2]) rfl (by decide) rfl (by decide +kernel) rfl rfl (by simp) fun F L C=>?_
 cbv
 skip
 refine LoopThen.mk (C.loopAt (ι:=Nat) [(2,31)] (fun i=>[(3,.int .i64 (O.o (netI s) i)),(4,.int .i64 i)]) (fun _=>[])
  (fun i=>i≤s.length∧∀ j,0<j→j≤i→j<s.length→0<netI s j) (fun i=>N-i) (by decide +kernel) (Start.mk z [] [] ⟨by omega,fun j h1 h2=>by omega⟩ ?_) ?_)
 ·cbv
  (repeat' apply And.intro)<;>first|exact True.intro|exact h0.symm|exact h0|(clear hb hnet hQ1;lia)|trace_state
 intro i g
 cbv
 have g1:i≤s.length:=g.1
 have g2:=g.2
 clear g
 by_cases hk:i<s.length
 ·have hv:=hb i
  have hn:=net_cases hk hv
  have hx:=hnet i
  have hst:(0<netI s (i+1)∨¬ i+1<s.length)→∀ j,0<j→j≤i+1→j<s.length→0<netI s j:=fun h j h1 h2 h3=>by
   by_cases e:j=i+1
   ·subst e;omega
   ·exact g2 j h1 (by omega) h3
  have hno:netI s (i+1)≤0→i+1<s.length→Q=false:=fun h1 h2=>by rw[hQ1];exact wholeD_no h1 h2
  rw[show netI s i=O.o (netI s) i by rw[O.h],show netI s (i+1)=O.o (netI s) (i+1) by rw[O.h]] at hn
  rw[show netI s (i+1)=O.o (netI s) (i+1) by rw[O.h]] at hst hno
  obtain⟨N1,hN1⟩:∃ x,x=O.o (netI s) (i+1):=⟨_,rfl⟩
  rw[← hN1] at hn hst hno
  clear hb hnet hv h0 g2 hQ1
  (repeat' first|(refine Na ?_ fun _ _=>?_;(focus lia);cbv)|(refine Back.up [] [] ?_ ?_ fun _ _=>?_;rotate_left 2;cbv;refine And.intro ?_ ?_)|(refine Nm fun _ _=>?_;cbv)|(refine Br.t ?_ ?_;(focus first|assumption|lia);cbv)|(refine Br.f ?_ ?_;(focus first|assumption|lia);cbv)|(refine Br.mk (fun _=>?_) (fun _=>?_)<;>cbv)|(refine Need.mk ?_ ?_;rotate_left;cbv)|(refine R0 ?_;cbv))
  all_goals(repeat' apply And.intro)
  all_goals try first
   | exact True.intro
   | exact WkR.refl _
   | (clear hN1 hst hno;lia)
  all_goals first
   | exact hst (by clear hN1 hst hno;first|(left;lia)|(right;lia))
   | exact hno (by clear hN1 hst hno;lia) (by clear hN1 hst hno;lia)
   | exact(hno (by clear hN1 hst hno;lia) (by clear hN1 hst hno;lia)).symm
   | (rename_i y ey;subst ey;refine hN1.symm.trans ?_;clear hN1 hst hno;lia)
   | (rename_i y ey;subst ey;refine Eq.trans ?_ hN1;clear hN1 hst hno;lia)
   | trace_state
 ·have hi:i=s.length:=by omega
  have hB:=wholeD_end fun j h1 h2=>g2 j h1 (by omega) h2
  rw[← hQ1,← hi,show netI s i=O.o (netI s) i by rw[O.h]] at hB
  clear hb g2 hQ1
  cases Q
  all_goals
   have hx:=hnet i
   (repeat' first|(refine Nm fun _ _=>?_;cbv)|(refine Br.t ?_ ?_;(focus first|assumption|lia);cbv)|(refine Br.f ?_ ?_;(focus first|assumption|lia);cbv)|(refine Br.mk (fun _=>?_) (fun _=>?_)<;>cbv)|(refine R0 ?_;cbv))
   all_goals first
    | exact⟨rfl,trivial⟩
    | (exfalso;clear hnet;simp only [true_iff,false_iff,Bool.false_eq_true] at hB;lia)
    | (exfalso;clear hnet hB;lia)
    | trace_state
theorem rdepthX_fn (O:Opq):∀ (k:Nat),k≤100→∀ (x:Nd),NdB 100000 x→∀ v:Int,v=k→Fn prog 91 [.agg (x.en O),.int .i64 v] [] [.int .i64 (O.o (depthI k) x)] []
 | 0,_,.mk kk t n l,_,v,hv=>by
  have hq:O.o (depthI 0) (.mk kk t n l)=1:=by rw[O.h];rfl
  rw[hq]
  refine go (fn:=Proofs.Tryz.f91) (n:=29) (rv:=[ResultVar.tmp 4]) rfl (by decide) rfl (by decide +kernel) rfl rfl (by simp) fun F L C=>?_
  cbv
  (repeat' first|(refine Br.t ?_ ?_;(focus first|assumption|lia);cbv)|(refine R0 ?_;cbv))
  all_goals first
   | exact⟨rfl,trivial⟩
   | (exfalso;lia)
   | trace_state
 | k+1,hk,.mk kk t n l,hB,v,hv=>by
  have hq:O.o (depthI (k+1)) (.mk kk t n l)=O.o (accD k l) l.length+1:=by rw[O.h,O.h];exact depthI_succ k
  obtain⟨Q,hQ⟩:∃ Q,Q=O.o (depthI (k+1)) (.mk kk t n l):=⟨_,rfl⟩
  rw[← hQ] at hq ⊢
  have hl:=hB.len
  have hlen:=Nds.en_len O l
  obtain⟨z,hz⟩:∃ z:Nat,z=0:=⟨_,rfl⟩
  obtain⟨N,hN⟩:∃ N:Nat,N=l.length:=⟨_,rfl⟩
  obtain⟨w,hw⟩:∃ w:Int,w=k:=⟨_,rfl⟩
  have hw2:w=IntKind.i64.wrap (v-1):=by rw[wrap64 (by omega)];omega
  have hw3:w=v-1:=by omega
  have h0:O.o (accD k l) z=0:=by rw[O.h,hz];rfl
  have hle:∀ i,0≤O.o (accD k l) i∧O.o (accD k l) i≤200:=fun i=>by rw[O.h];have:=accD_le k l i;omega
  have ih:∀ x∈l,Fn prog 91 [.agg (x.en O),.int .i64 w] [] [.int .i64 (O.o (depthI k) x)] []:=fun x hx=>rdepthX_fn O k (by omega) x (hB.arg x hx) w hw
  clear hQ hB
  refine go (fn:=Proofs.Tryz.f91) (n:=29) (rv:=[ResultVar.tmp 4]) rfl (by decide) rfl (by decide +kernel) rfl rfl (by simp) fun F L C=>?_
  cbv
  (repeat' first|(refine Br.f ?_ ?_;(focus first|assumption|lia);cbv))
  all_goals try(exfalso;clear ih hle;lia)
  refine LoopThen.mk (C.loopAt (ι:=Nat) [(5,7),(10,28)] (fun i=>[(5,.int .i64 (O.o (accD k l) i)),(6,.int .i64 i)]) (fun _=>[(256,.box [.int .i64 kk,.str (O.o ofL t),.int .i64 n,.sl false 0 false 4 (O.o Nds.enc l)])])
   (fun i=>i≤l.length) (fun i=>N-i) (by decide +kernel) (Start.mk z [] [] (show z≤l.length by omega) ?_) ?_)
  ·cbv
   (repeat' apply And.intro)<;>first|exact True.intro|exact h0.symm|exact h0|exact WkR.refl _|(clear ih hle;lia)|trace_state
  intro i g
  cbv
  have g1:i≤l.length:=g
  have hx:=hle i
  clear g h0
  by_cases hki:i<l.length
  ·obtain⟨x,hxi⟩:∃ x,l[i]?=some x:=⟨l[i],by simp [hki]⟩
   have kc:=ih x (List.mem_of_getElem? hxi)
   have hs:=accD_step (k:=k) hxi
   rw[show accD k l (i+1)=O.o (accD k l) (i+1) by rw[O.h],show accD k l i=O.o (accD k l) i by rw[O.h],show((depthN k x:Nat):Int)=O.o (depthI k) x by rw[O.h];rfl] at hs
   obtain⟨D,hD⟩:∃ D,D=O.o (depthI k) x:=⟨_,rfl⟩
   rw[← hD] at hs kc
   obtain⟨A1,hA1⟩:∃ A,A=O.o (accD k l) (i+1):=⟨_,rfl⟩
   rw[← hA1] at hs
   have hs:(O.o (accD k l) i≤D∧A1=D)∨(D≤O.o (accD k l) i∧A1=O.o (accD k l) i):=by omega
   obtain⟨kk',t',n',l'⟩:=x
   clear ih hle hD
   (repeat' first|(refine Named.at' w hw2 ?_;cbv)|(refine Na ?_ fun _ _=>?_;(focus lia);cbv)|(refine Ex.nd O hxi ?_ ?_;(focus lia);cbv)|(refine CallThen.mk _ _ (C.fn (kc)) ?_;cbv)|(refine Back.up [] [] ?_ ?_ fun _ _=>?_;rotate_left 2;cbv;refine And.intro ?_ ?_)|(refine Nm fun _ _=>?_;cbv)|(refine Br.t ?_ ?_;(focus first|assumption|lia);cbv)|(refine Br.mk (fun _=>?_) (fun _=>?_)<;>cbv))
   all_goals(repeat' apply And.intro)
   all_goals try first
    | exact True.intro
    | exact WkR.refl _
    | (clear hA1 kc hxi;lia)
   all_goals first
    | (rename_i y ey;subst ey;refine hA1.symm.trans ?_;clear hA1 kc hxi;lia)
    | (rename_i y ey;subst ey;refine Eq.trans ?_ hA1;clear hA1 kc hxi;lia)
    | (rename_i y ey;subst ey;refine hA1.symm.trans ?_;show A1=O.o (accD k l) i;clear hA1 kc hxi;lia)
    | trace_state
  ·have hq2:Q=O.o (accD k l) i+1:=by rw[hq,show i=l.length by omega]
   clear ih hle hq
   (repeat' first|(refine Na ?_ fun _ _=>?_;(focus lia);cbv)|(refine Nm fun _ _=>?_;cbv)|(refine Br.f ?_ ?_;(focus first|assumption|lia);cbv)|(refine R0 ?_;cbv))
   all_goals first
    | exact⟨by lia,trivial⟩
    | (exfalso;lia)
    | trace_state
theorem Ex.pair (O:Opq) {l:List PairK} {k:Nat} {x:PairK} (hx:l[k]?=some x) {i:Int} {K:List PV→Prop} (hi:i=k) (h:K x.enc):Ex (List PV) (fun row=>0≤i∧(O.o Prs.enc l)[i.toNat]?=some row) K :=
 .mk x.enc ⟨by omega,by rw[O.h,Prs.enc,List.getElem?_map,hi,Int.toNat_natCast,hx];rfl⟩ h
noncomputable def mayPE (l:List PairK):Int:=if mayPb l=true then 0 else 1
theorem icheck_fn0 (O:Opq) (l:List PairK) (hl:l.length≤9223372036854775807):Fn prog 21 [.sl true 0 false 2 (O.o Prs.enc l)] [] [.int .i64 (O.o mayPE l)] []:=by
 have hlen:=Prs.len O l
 obtain⟨R,eR⟩:∃ R,R=O.o mayPE l:=⟨_,rfl⟩
 have hRy:mayP l→R=0:=fun h=>by rw[eR,O.h,mayPE,if_pos (mayPb_iff.2 h)]
 have hRn:¬ mayP l→R=1:=fun h=>by rw[eR,O.h,mayPE,if_neg (fun k=>h (mayPb_iff.1 k))]
 rw[← eR]
 clear eR
 obtain⟨z,hz⟩:∃ z:Nat,z=0:=⟨_,rfl⟩
 obtain⟨N,hN⟩:∃ N:Nat,N=l.length:=⟨_,rfl⟩
 have hz0:mayTo l z:=by rw[hz];exact mayTo_zero l
 refine go (fn:=Proofs.Tryz.f21) (n:=24) (rv:=[ResultVar.tmp 2]) rfl (by decide) rfl (by decide +kernel) rfl rfl (by simp) fun F L C=>?_
 cbv
 (repeat' first|(refine Nm fun _ _=>?_;cbv))
 refine LoopThen.mk (C.loopAt (ι:=Nat) [(2,3),(6,24)] (fun k=>[(6,.int .i64 k)]) (fun _=>[]) (fun k=>k≤l.length∧mayTo l k) (fun k=>N-k) (by decide +kernel) (Start.mk z [] [] ⟨by omega,hz0⟩ ?_) ?_)
 ·cbv
  (repeat' apply And.intro)<;>first|exact True.intro|exact WkR.refl _|rfl|(clear hRn hRy hz0;lia)|trace_state
 intro k g
 cbv
 have g1:k≤l.length:=g.1
 have g2:mayTo l k:=g.2
 clear g hz0
 by_cases hk:k<l.length
 ·obtain⟨x,hx⟩:∃ x,l[k]?=some x:=⟨l[k],by simp [hk]⟩
  cases k with
  | zero =>
   have hst:mayTo l (0+1):=mayTo_one l
   clear hRy hRn g2
   (repeat' first|(refine Na ?_ fun _ _=>?_;(focus lia);cbv)|(refine Back.up [] [] ?_ ?_ fun _ _=>?_;rotate_left 2;cbv;refine And.intro ?_ ?_)|(refine Br.t ?_ ?_;(focus first|assumption|lia);cbv)|(refine Br.f ?_ ?_;(focus first|assumption|lia);cbv))
   all_goals first
    | exact⟨by omega,hst⟩
    | ((repeat' apply And.intro)<;>first|exact True.intro|exact WkR.refl _|exact hst|(clear hst hx;lia))
    | (exfalso;clear hst hx;lia)
    | trace_state
  | succ m =>
   obtain⟨y,hy⟩:∃ x,l[m]?=some x:=⟨l[m]'(by omega),by simp⟩
   have ko:=order_fn O y x
   have hS:O.o (ordI y) x<0 ↔ lessP y x:=by rw[O.h];exact ordI_lt
   have hno:¬ O.o (ordI y) x<0→R=1:=fun h=>hRn (mayP_no hy hx (fun k=>h (hS.2 k)))
   have hst:O.o (ordI y) x<0→mayTo l (m+1+1):=fun h=>mayTo_step g2 hy hx (hS.1 h)
   obtain⟨S,eS⟩:∃ S,S=O.o (ordI y) x:=⟨_,rfl⟩
   rw[← eS] at ko hno hst
   clear hRy hRn g2 hS eS
   obtain⟨xa,xb⟩:=x
   obtain⟨ya,yb⟩:=y
   (repeat' first|(refine Na ?_ fun _ _=>?_;(focus lia);cbv)|(refine Ex.pair O hx ?_ ?_;(focus lia);cbv)|(refine Ex.pair O hy ?_ ?_;(focus lia);cbv)|(refine CallThen.mk _ _ (C.fn (ko)) ?_;cbv)|(refine Back.up [] [] ?_ ?_ fun _ _=>?_;rotate_left 2;cbv;refine And.intro ?_ ?_)|(refine Br.t ?_ ?_;(focus first|assumption|lia);cbv)|(refine Br.mk (fun _=>?_) (fun _=>?_)<;>cbv)|(refine R0 ?_;cbv))
   all_goals first
    | exact⟨hno (by lia),trivial⟩
    | exact⟨(hno (by lia)).symm,trivial⟩
    | exact⟨by omega,hst (by lia)⟩
    | ((repeat' apply And.intro)<;>first|exact True.intro|exact WkR.refl _|exact hst (by lia)|(clear hst hno ko hx hy;lia))
    | (exfalso;clear hst hno ko hx hy;lia)
    | (clear hst hno ko hx hy;lia)
    | trace_state
 ·have hyes:=hRy (mayP_end g2 (by omega))
  clear hRy hRn g2
  (repeat' first|(refine Br.f ?_ ?_;(focus first|assumption|lia);cbv)|(refine R0 ?_;cbv))
  all_goals first
   | exact⟨hyes,trivial⟩
   | exact⟨hyes.symm,trivial⟩
   | (exfalso;lia)
   | trace_state
open Classical in
noncomputable def lessPb (p q:PairK):Bool:=decide (lessP p q)
open Classical in
theorem lessPb_iff {p q:PairK}:lessPb p q=true ↔ lessP p q:=by rw[lessPb,decide_eq_true_eq]
theorem rless_fn (O:Opq) (p q:PairK):Fn prog 40 [.agg p.enc,.agg q.enc] [] [.bool (O.o (lessPb p) q)] []:=by
 obtain⟨a,b⟩:=p
 obtain⟨c,d⟩:=q
 have h:O.o (lessPb ⟨a,b⟩) ⟨c,d⟩=true ↔ slt a c∨(a=c∧slt b d):=by rw[O.h];exact lessPb_iff
 obtain⟨R,hR⟩:∃ R,R=O.o (lessPb ⟨a,b⟩) ⟨c,d⟩:=⟨_,rfl⟩
 rw[← hR] at h ⊢
 clear hR
 by_cases q:slt a c∨(a=c∧slt b d)
 ·obtain rfl:=h.2 q
  clear h
  refine go (fn:=Proofs.Tryz.f40) (n:=22) (rv:=[ResultVar.tmp 4]) rfl (by decide) rfl (by decide +kernel) rfl rfl (by simp) fun F L C=>?_
  cbv
  (repeat' first|(refine Br.t ?_ ?_;(focus first|assumption|lia);cbv)|(refine Br.mk (fun _=>?_) (fun _=>?_)<;>cbv)|(refine R0 ?_;cbv))
  all_goals first
   | exact⟨rfl,trivial⟩
   | (exfalso;rcases q with q | ⟨q1,q2⟩<;>contradiction)
   | trace_state
 ·have:R=false:=by cases R;rfl;exact absurd (h.1 rfl) q
  subst this
  clear h
  refine go (fn:=Proofs.Tryz.f40) (n:=22) (rv:=[ResultVar.tmp 4]) rfl (by decide) rfl (by decide +kernel) rfl rfl (by simp) fun F L C=>?_
  cbv
  (repeat' first|(refine Br.f ?_ ?_;(focus first|assumption|lia);cbv)|(refine Br.mk (fun _=>?_) (fun _=>?_)<;>cbv)|(refine R0 ?_;cbv))
  all_goals first
   | exact⟨rfl,trivial⟩
   | (exfalso;first|exact q (.inl (by assumption))|exact q (.inr ⟨by assumption,by assumption⟩))
   | trace_state
theorem rmayP_fn (O:Opq) (l:List PairK) (hl:l.length≤9223372036854775807):Fn prog 17 [.sl false 0 false 2 (O.o Prs.enc l)] [] [.bool (O.o mayPb l)] []:=by
 have hlen:=Prs.len O l
 obtain⟨R,eR⟩:∃ R,R=O.o mayPb l:=⟨_,rfl⟩
 have hRy:mayP l→R=true:=fun h=>by rw[eR,O.h];exact mayPb_iff.2 h
 have hRn:¬ mayP l→R=false:=fun h=>by rw[eR,O.h];cases e:mayPb l;rfl;exact absurd (mayPb_iff.1 e) h
 rw[← eR]
 clear eR
 obtain⟨z,hz⟩:∃ z:Nat,z=1:=⟨_,rfl⟩
 obtain⟨N,hN⟩:∃ N:Nat,N=l.length:=⟨_,rfl⟩
 have hz0:mayTo l z:=by rw[hz];exact mayTo_one l
 refine go (fn:=Proofs.Tryz.f17) (n:=20) (rv:=[ResultVar.tmp 2]) rfl (by decide) rfl (by decide +kernel) rfl rfl (by simp) fun F L C=>?_
 cbv
 refine LoopThen.mk (C.loopAt (ι:=Nat) [(2,20)] (fun k=>[(3,.int .i64 k)]) (fun _=>[]) (fun k=>1≤k∧k≤l.length+1∧mayTo l k) (fun k=>(N+1)-k) (by decide +kernel) (Start.mk z [] [] ⟨by omega,by omega,hz0⟩ ?_) ?_)
 ·cbv
  (repeat' apply And.intro)<;>first|exact True.intro|exact WkR.refl _|rfl|(clear hRn hRy hz0;lia)|trace_state
 intro k g
 have g0:1≤k:=g.1
 have g1:k≤l.length+1:=g.2.1
 have g2:mayTo l k:=g.2.2
 clear g hz0
 match k,g0 with
 | m+1,_ =>
 cbv
 by_cases hk:m+1<l.length
 ·obtain⟨x,hx⟩:∃ x,l[m+1]?=some x:=⟨l[m+1],by simp [hk]⟩
  obtain⟨y,hy⟩:∃ x,l[m]?=some x:=⟨l[m]'(by omega),by simp⟩
  have ko:=rless_fn O y x
  rw[O.h] at ko
  have hno:lessPb y x=false→R=false:=fun h=>hRn (mayP_no hy hx (fun k=>by rw[lessPb_iff.2 k] at h;cases h))
  have hst:lessPb y x=true→mayTo l (m+1+1):=fun h=>mayTo_step g2 hy hx (lessPb_iff.1 h)
  obtain⟨S,eS⟩:∃ S,S=lessPb y x:=⟨_,rfl⟩
  rw[← eS] at ko hno hst
  clear hRy hRn g2 eS
  obtain⟨xa,xb⟩:=x
  obtain⟨ya,yb⟩:=y
  (repeat' first|(refine Na ?_ fun _ _=>?_;(focus lia);cbv)|(refine Ex.pair O hx ?_ ?_;(focus lia);cbv)|(refine Ex.pair O hy ?_ ?_;(focus lia);cbv)|(refine CallThen.bool (C.fn (ko)) (fun _=>?_) (fun _=>?_)<;>cbv)|(refine Back.up [] [] ?_ ?_ fun _ _=>?_;rotate_left 2;cbv;refine And.intro ?_ ?_)|(refine Nm fun _ _=>?_;cbv)|(refine Br.t ?_ ?_;(focus first|assumption|lia);cbv)|(refine R0 ?_;cbv))
  all_goals first
   | exact⟨hno (by assumption),trivial⟩
   | exact⟨(hno (by assumption)).symm,trivial⟩
   | exact⟨by omega,by omega,hst (by assumption)⟩
   | ((repeat' apply And.intro)<;>first|exact True.intro|exact WkR.refl _|exact hst (by assumption)|(clear hst hno ko hx hy;lia))
   | (exfalso;clear hst hno ko hx hy;lia)
   | (clear hst hno ko hx hy;lia)
   | trace_state
 ·have hyes:=hRy (mayP_end g2 (by omega))
  clear hRy hRn g2
  (repeat' first|(refine Nm fun _ _=>?_;cbv)|(refine Br.f ?_ ?_;(focus first|assumption|lia);cbv)|(refine R0 ?_;cbv))
  all_goals first
   | exact⟨hyes,trivial⟩
   | exact⟨hyes.symm,trivial⟩
   | (exfalso;lia)
   | trace_state
theorem ifind_fn (O:Opq) (l:List PairK) (f t:ByteArray) (m:Int) (hl:l.length≤1000000) (hm:0≤m) (hok:mayP l):Fn prog 16 [.sl false 0 false 2 (O.o Prs.enc l),.str f,.str t,.int .i64 m] [] [.sl false 0 false 2 (O.o Prs.enc (O.o (findP f t m) l)),.int .i64 0] []:=by
 have hlen:=Prs.len O l
 have kc:=icheck_fn0 O l (by omega)
 rw[O.h mayPE,mayPE,if_pos (mayPb_iff.2 hok)] at kc
 obtain⟨z,hz⟩:∃ z:Nat,z=0:=⟨_,rfl⟩
 obtain⟨N,hN⟩:∃ N:Nat,N=l.length:=⟨_,rfl⟩
 have hz0:O.o Prs.enc (O.o (findK f t m l) z)=[]:=by rw[hz,O.h (findK f t m l),findK_zero,O.h];rfl
 clear hok
 refine go (fn:=Proofs.Tryz.f16) (n:=48) (rv:=[ResultVar.tmp 8,ResultVar.tmp 9]) rfl (by decide) rfl (by decide +kernel) rfl rfl (by simp) fun F L C=>?_
 cbv
 (repeat' first|(refine CallThen.mk _ _ (C.fn (Fn.wkA (kc) ?_)) ?_;(focus((repeat' apply WkAL.cons)<;>first|exact WkAL.nil|exact WkA.refl _|exact WkA.lend rfl|exact WkA.bor rfl (WkR.refl _)|exact WkA.wk (Wk.nil _ _)|exact WkA.wk (Wk.sl' rfl rfl (WkR.refl _))|(refine WkA.agg' ?_;((repeat' apply WkAL.cons)<;>first|exact WkAL.nil|exact WkA.refl _|exact WkA.lend rfl|exact WkA.bor rfl (WkR.refl _)|exact WkA.wk (Wk.nil _ _)|exact WkA.wk (Wk.sl' rfl rfl (WkR.refl _))|(refine WkA.agg' ?_;((repeat' apply WkAL.cons)<;>first|exact WkAL.nil|exact WkA.refl _|exact WkA.lend rfl|exact WkA.bor rfl (WkR.refl _)|exact WkA.wk (Wk.nil _ _)|exact WkA.wk (Wk.sl' rfl rfl (WkR.refl _))))))));cbv)|(refine Nm fun _ _=>?_;cbv)|(refine Br.t ?_ ?_;(focus first|assumption|lia);cbv)|(refine Br.f ?_ ?_;(focus first|assumption|lia);cbv))
 all_goals try(exfalso;clear kc;lia)
 refine LoopThen.mk (C.loopAt (ι:=Nat) [(10,10),(12,12),(22,50)] (fun k=>[(10,.ref 50),(22,.int .i64 k)]) (fun k=>[(50,.arr 0 none 2 (O.o Prs.enc (O.o (findK f t m l) k)))]) (fun k=>k≤l.length) (fun k=>N-k) (by decide +kernel) (Start.mk z [(50,.nil 2)] [] (show z≤l.length by omega) ?_) ?_)
 ·cbv
  (repeat' apply And.intro)<;>first|exact True.intro|exact WkR.refl _|rfl|exact hz0|(clear kc hz0;lia)|trace_state
 intro k g
 cbv
 have g1:k≤l.length:=g
 clear g hz0 kc
 by_cases hk:k<l.length
 ·obtain⟨x,hx⟩:∃ x,l[k]?=some x:=⟨l[k],by simp [hk]⟩
  have hs:=findK_step (f:=f) (t:=t) (m:=m) hx
  have hle:=findK_len f t m l k
  have hA:=Prs.len O (O.o (findK f t m l) k)
  have happ:O.o Prs.enc (O.o (findK f t m l) k++[x])=O.o Prs.enc (O.o (findK f t m l) k)++[x.enc]:=by
   have q:∀ l,O.o Prs.enc l=l.map PairK.enc:=fun l=>by rw[O.h];rfl
   rw[q,q,List.map_append];rfl
  have hyes:¬ slt x.key f∧(t=ByteArray.empty∨slt x.key t)∧((O.o (findK f t m l) k).length:Int)<m→O.o (findK f t m l) (k+1)=O.o (findK f t m l) k++[x]:=fun h=>by rw[O.h] at h ⊢;rw[hs,stepF,if_pos h]
  have hno:¬ (¬ slt x.key f∧(t=ByteArray.empty∨slt x.key t)∧((O.o (findK f t m l) k).length:Int)<m)→O.o (findK f t m l) (k+1)=O.o (findK f t m l) k:=fun h=>by rw[O.h] at h ⊢;rw[hs,stepF,if_neg h]
  have hle:(O.o (findK f t m l) k).length≤k:=by rw[O.h];exact hle
  obtain⟨W,eW⟩:∃ W,W=O.o (findK f t m l) (k+1):=⟨_,rfl⟩
  obtain⟨V,eV⟩:∃ W,W=O.o (findK f t m l) k:=⟨_,rfl⟩
  rw[← eV] at hA happ hyes hno hle
  have hA2:(O.o Prs.enc (O.o (findK f t m l) k)).length=V.length:=by rw[← eV];exact hA
  have eV2:=trivial
  rw[← eW] at hyes hno
  clear hs
  obtain⟨xa,xb⟩:=x
  (repeat' first|(refine Na ?_ fun _ _=>?_;(focus lia);cbv)|(refine Ex.pair O hx ?_ ?_;(focus lia);cbv)|(refine Back.up [(50,.loc 3264)] [] ?_ ?_ fun _ _=>?_;rotate_left 2;cbv;refine And.intro ?_ ?_)|(refine Back.up [] [] ?_ ?_ fun _ _=>?_;rotate_left 2;cbv;refine And.intro ?_ ?_)|(refine Nl fun _ _ hq=>?_;(try simp only [lenS] at hq);cbv)|(refine Nm fun _ _=>?_;cbv)|(refine Br.t ?_ ?_;(focus first|assumption|lia);cbv)|(refine Br.mk (fun _=>?_) (fun _=>?_)<;>cbv)|(refine Need.mk ?_ ?_;rotate_left;cbv))
  all_goals first
   | ((repeat' apply And.intro)<;>first
     | exact True.intro
     | exact WkR.refl _
     | (rename_i k' hk';subst hk';refine WkR.of_eq ?_;show O.o Prs.enc (O.o (findK f t m l) (k+1))=O.o Prs.enc (O.o (findK f t m l) k);rw[← eW,← eV,hno (by rintro ⟨h1,h2,h3⟩;first|contradiction|(rcases h2 with h2|h2<;>contradiction)|(clear hx eW eV hyes hno happ;lia))])
     | (rename_i k' hk';subst hk';refine WkR.of_eq ?_;show O.o Prs.enc (O.o (findK f t m l) (k+1))=_;rw[← eW,hyes ⟨by assumption,by first|exact .inl (by assumption)|exact .inr (by assumption),by clear hx eW eV hyes hno happ;lia⟩,happ,eV];symm;assumption)
     | (clear hx eW eV eV2 hyes hno happ;lia))
   | (clear hx eW eV hyes hno happ;show((O.o Prs.enc (O.o (findK f t m l) k)).length+1) * 32≤2 ^ 44∧(O.o Prs.enc (O.o (findK f t m l) k)).length+1≤2 ^ 60;lia)
   | (exfalso;clear hx eW eV eV2 hyes hno happ;lia)
   | trace_state
 ·have he:O.o (findK f t m l) k=O.o (findP f t m) l:=by rw[O.h,O.h,findK_end (by omega)]
  have he:O.1 (findK f t m l) k=O.1 (findP f t m) l:=he
  rw[← he]
  (repeat' first|(refine RetThen.mk [] [50] ?_;cbv)|(refine Nl fun _ _ hq=>?_;(try simp only [lenS] at hq);cbv)|(refine Br.f ?_ ?_;(focus first|assumption|lia);cbv))
  all_goals first
   | exact⟨.refl _,trivial⟩
   | (rename_i R eR;exact⟨.of_eq eR.symm,trivial⟩)
   | exact⟨.refl _,rfl,trivial⟩
   | (exfalso;lia)
   | trace_state
end Go.Sym
