/- Which expressions may be (walks): the program's. -/
import Derived.Test.YtaedpfkpdeaibaaGreatDoorK16
import Derived.Test.YtaedpfkpdeaibaaGreatDoorK17
set_option linter.all false
set_option linter.unusedVariables false
set_option linter.unusedSimpArgs false
namespace Go.Sym
open Go Go.Proofs.Tryz
set_option maxRecDepth 100000
inductive NdS:Nd→Prop
 | mk {k:Int} {t:List UInt8} {n:Int} {l:List Nd} (h:l.length≤3000) (ht:t.length≤3000) (ih:∀ a∈l,NdS a):NdS (.mk k t n l)
theorem NdS.len {k:Int} {t:List UInt8} {n:Int} {l:List Nd} (h:NdS (.mk k t n l)):l.length≤3000:=by cases h;assumption
theorem NdS.txt {k:Int} {t:List UInt8} {n:Int} {l:List Nd} (h:NdS (.mk k t n l)):t.length≤3000:=by cases h;assumption
theorem NdS.arg {k:Int} {t:List UInt8} {n:Int} {l:List Nd} (h:NdS (.mk k t n l)):∀ a∈l,NdS a:=by cases h;assumption
theorem NdS.b {x:Nd} (h:NdS x):NdB 100000 x:=by
 induction h with
 | mk h ht _ ih=>exact .mk (by omega) ih
open Classical in
noncomputable def madeD (x:Nd):Bool:=decide (Made x)
noncomputable def nmade (x:Nd):Bool:=!madeD x
theorem madeD_iff {x:Nd}:madeD x=true ↔ Made x:=by simp [madeD]
theorem made_iff {k:Int} {t:List UInt8} {n:Int} {l:List Nd}:Made (.mk k t n l) ↔ madeB (.mk k t n l)=true∧l.any nmade=false:=by
 constructor
 ·rintro ⟨h,k⟩
  refine⟨h,?_⟩
  rw[List.any_eq_false]
  intro a ha
  simp [nmade,madeD_iff.2 (k a ha)]
 ·rintro ⟨h,k⟩
  refine .mk h fun a ha=>?_
  have:=List.any_eq_false.1 k a ha
  simp only [nmade,Bool.not_eq_true,Bool.not_eq_false'] at this
  exact madeD_iff.1 this
theorem madeB_iff {k:Int} {t:List UInt8} {n:Int} {l:List Nd}:madeB (.mk k t n l)=true ↔ (k=1∧n=0∧l.length=0∧pathL t=true∧plainL t=false)∨(k=2∧0≤n∧n<1000000000000000∧l.length=0∧t=[]) ∨
  ((k=3∨k=4)∧n=0∧l.length=2∧t=[])∨(k=5∧n=0∧l.length=1∧nameL t=true):=by
 change (if k=1 then decide (n=0) && l.isEmpty && pathL t && !plainL t
  else if k=2 then decide (0≤n∧n<1000000000000000) && l.isEmpty && t.isEmpty
  else if k=3∨k=4 then decide (n=0) && decide (l.length=2) && t.isEmpty
  else if k=5 then decide (n=0) && decide (l.length=1) && nameL t
  else false)=true ↔ _
 by_cases e1:k=1
 ·rw[if_pos e1];subst e1;simp [and_assoc]
 rw[if_neg e1]
 by_cases e2:k=2
 ·rw[if_pos e2];subst e2;simp [and_assoc]
 rw[if_neg e2]
 by_cases e3:k=3∨k=4
 ·rw[if_pos e3];rcases e3 with rfl|rfl<;>simp [and_assoc]
 rw[if_neg e3]
 by_cases e5:k=5
 ·rw[if_pos e5];subst e5;simp [and_assoc]
 ·rw[if_neg e5];simp [e1,e2,e3,e5]
theorem pureF_fn {O:Opq} {x:Nd} (h:Fn prog 38 [.agg (x.en O)] [] [.bool (O.o madeD x)] []):Fn prog 65 [.agg (x.en O)] [] [.bool (O.o nmade x)] []:=by
 have e:O.o nmade x=!(O.o madeD x):=by rw[O.h,O.h];rfl
 rw[e]
 obtain⟨B,eB⟩:∃ B,B=O.o madeD x:=⟨_,rfl⟩
 rw[← eB] at h ⊢
 obtain⟨kk,t,n,l⟩:=x
 clear eB e
 cases B
 all_goals
  refine go (fn:=Proofs.Tryz.f65) (n:=5) (rv:=[ResultVar.tmp 2]) rfl (by decide) rfl (by decide +kernel) rfl rfl (by simp) fun F L C=>?_
  cbv
  (repeat' first|(refine Na ?_ fun _ _=>?_;(focus lia);cbv)|(refine CallThen.mk _ _ (C.fn (h)) ?_;cbv)|(refine Nl fun _ _ hq=>?_;(try simp only [lenS] at hq);cbv)|(refine Nm fun _ _=>?_;cbv)|(refine Br.t ?_ ?_;(focus first|assumption|lia);cbv)|(refine Br.f ?_ ?_;(focus first|assumption|lia);cbv)|(refine Br.mk (fun _=>?_) (fun _=>?_)<;>cbv)|(refine Need.mk ?_ ?_;rotate_left;cbv)|(refine R0 ?_;cbv))
  all_goals first
   | exact⟨rfl,trivial⟩
   | trace_state
theorem indexP_fn {O:Opq} {l:List Nd} (hl:l.length≤100000) (hf:∀ x∈l,Fn prog 65 [.agg (x.en O)] [] [.bool (O.o nmade x)] []) :
  Fn prog 67 [.sl false 0 false 4 (O.o Nds.enc l),.fn 65 [] []] [] [.int .i64 (O.o (findN nmade) l)] []:=by
 have hlen:=Nds.en_len O l
 obtain⟨z,hz⟩:∃ z:Nat,z=0:=⟨_,rfl⟩
 obtain⟨N,hN⟩:∃ N:Nat,N=l.length:=⟨_,rfl⟩
 refine go (fn:=Proofs.Tryz.f67) (n:=17) (rv:=[ResultVar.tmp 4]) rfl (by decide) rfl (by decide +kernel) rfl rfl (by simp) fun F L C=>?_
 cbv
 (repeat' first|(refine Na ?_ fun _ _=>?_;(focus lia);cbv)|(refine Nl fun _ _ hq=>?_;(try simp only [lenS] at hq);cbv)|(refine Nm fun _ _=>?_;cbv)|(refine Br.t ?_ ?_;(focus first|assumption|lia);cbv)|(refine Br.f ?_ ?_;(focus first|assumption|lia);cbv)|(refine Br.mk (fun _=>?_) (fun _=>?_)<;>cbv)|(refine Need.mk ?_ ?_;rotate_left;cbv)|(refine R0 ?_;cbv))
 refine LoopThen.mk (C.loopAt (ι:=Nat) [(4,5),(8,18)] (fun k=>[(4,.int .i64 0),(8,.int .i64 k)]) (fun _=>[])
  (fun i=>i≤l.length∧∀ (j:Nat) x,j<i→l[j]?=some x→nmade x=false) (fun i=>N-i) (by decide +kernel) (Start.mk z [] [] ⟨by omega,fun j x hj=>by omega⟩ (by cbv;(repeat' apply And.intro)<;>first|exact True.intro|exact WkR.refl _|rfl|lia)) ?_)
 intro i g
 cbv
 have g1:i≤l.length:=g.1
 have g2:=g.2
 clear g
 by_cases hk:i<l.length
 ·obtain⟨x,hx⟩:∃ x,l[i]?=some x:=⟨l[i],by simp [hk]⟩
  have hc:=hf x (List.mem_of_getElem? hx)
  have hyes:O.o nmade x=true→O.o (findN nmade) l=i:=fun e=>by rw[O.h] at e ⊢;exact findN_at hx e g2
  have hst:O.o nmade x=false→∀ (j:Nat) y,j<i+1→l[j]?=some y→nmade y=false:=fun h j y hj hy=>by
   by_cases ej:j=i
   ·subst ej;rw[hx] at hy;cases hy;rwa [O.h] at h
   ·exact g2 j y (by omega) hy
  obtain⟨Q,eQ⟩:∃ Q,Q=O.o (findN nmade) l:=⟨_,rfl⟩
  obtain⟨B,eB⟩:∃ B,B=O.o nmade x:=⟨_,rfl⟩
  rw[← eQ] at hyes ⊢
  rw[← eB] at hyes hst hc
  obtain⟨kk,t,n,la⟩:=x
  clear g2 eQ hf eB
  (repeat' first|(refine Na ?_ fun _ _=>?_;(focus lia);cbv)|(refine Ex.nd O hx ?_ ?_;(focus lia);cbv)|(refine CallThen.bool (C.fn (hc)) (fun _=>?_) (fun _=>?_)<;>cbv)|(refine Back.up [] [] ?_ ?_ fun _ _=>?_;rotate_left 2;cbv;refine And.intro ?_ ?_)|(refine Nl fun _ _ hq=>?_;(try simp only [lenS] at hq);cbv)|(refine Nm fun _ _=>?_;cbv)|(refine Br.t ?_ ?_;(focus first|assumption|lia);cbv)|(refine Br.f ?_ ?_;(focus first|assumption|lia);cbv)|(refine Br.mk (fun _=>?_) (fun _=>?_)<;>cbv)|(refine Need.mk ?_ ?_;rotate_left;cbv)|(refine R0 ?_;cbv))
  all_goals(repeat' apply And.intro)
  all_goals try first
   | exact True.intro
   | exact WkR.refl _
   | (clear hx hst hyes hc;lia)
  all_goals first
   | exact hst (by assumption)
   | (rw[hyes (by assumption)];clear hx hst hyes hc;lia)
   | trace_state
 ·have hno:O.o (findN nmade) l=-1:=by rw[O.h];exact findN_no fun j x hj hx=>g2 j x (by omega) hx
  rw[hno]
  clear g2 hf
  (repeat' first|(refine Na ?_ fun _ _=>?_;(focus lia);cbv)|(refine Nl fun _ _ hq=>?_;(try simp only [lenS] at hq);cbv)|(refine Nm fun _ _=>?_;cbv)|(refine Br.t ?_ ?_;(focus first|assumption|lia);cbv)|(refine Br.f ?_ ?_;(focus first|assumption|lia);cbv)|(refine Br.mk (fun _=>?_) (fun _=>?_)<;>cbv)|(refine Need.mk ?_ ?_;rotate_left;cbv)|(refine R0 ?_;cbv))
  all_goals first
   | exact⟨rfl,trivial⟩
   | (exfalso;lia)
   | trace_state
theorem containsP_fn {O:Opq} {l:List Nd} (h:Fn prog 67 [.sl false 0 false 4 (O.o Nds.enc l),.fn 65 [] []] [] [.int .i64 (O.o (findN nmade) l)] []) :
  Fn prog 43 [.sl false 0 false 4 (O.o Nds.enc l),.fn 65 [] []] [] [.bool (O.o (fun l=>l.any nmade) l)] []:=by
 have hi:(0≤O.o (findN nmade) l ↔ O.o (fun l:List Nd=>l.any nmade) l=true):=by rw[O.h,O.h];exact findN_ge _ l
 obtain⟨Q,eQ⟩:∃ Q,Q=O.o (findN nmade) l:=⟨_,rfl⟩
 rw[← eQ] at h hi
 obtain⟨B,eB⟩:∃ Q,Q=O.o (fun l:List Nd=>l.any nmade) l:=⟨_,rfl⟩
 rw[← eB] at hi ⊢
 clear eQ eB
 cases B
 all_goals
  refine go (fn:=Proofs.Tryz.f43) (n:=7) (rv:=[ResultVar.tmp 4]) rfl (by decide) rfl (by decide +kernel) rfl rfl (by simp) fun F L C=>?_
  cbv
  (repeat' first|(refine Na ?_ fun _ _=>?_;(focus lia);cbv)|(refine CallThen.mk _ _ (C.fn (h)) ?_;cbv)|(refine Nl fun _ _ hq=>?_;(try simp only [lenS] at hq);cbv)|(refine Nm fun _ _=>?_;cbv)|(refine Br.t ?_ ?_;(focus first|assumption|lia);cbv)|(refine Br.f ?_ ?_;(focus first|assumption|lia);cbv)|(refine Br.mk (fun _=>?_) (fun _=>?_)<;>cbv)|(refine Need.mk ?_ ?_;rotate_left;cbv)|(refine R0 ?_;cbv))
  all_goals first
   | exact⟨rfl,trivial⟩
   | (exfalso;simp at hi;clear h;lia)
   | trace_state
set_option maxHeartbeats 4000000 in
theorem epure_fn (O:Opq) {x:Nd} (hx:NdS x):Fn prog 38 [.agg (x.en O)] [] [.bool (O.o madeD x)] []:=by
  induction hx with
  | @mk k t n l hl ht _ ih =>
  have hc:=containsP_fn (indexP_fn (O:=O) (l:=l) (by omega) fun x hx=>pureF_fn (ih x hx))
  have k1:=path_fn O (O.o ofL t)
  rw[show O.o isPath (O.o ofL t)=pathL t by simp only [O.h];exact isPath_L t] at k1
  have k2:=number_fn O t (by omega)
  have k3:=name_fn O t
  rw[show O.o plainL t=plainL t by rw[O.h]] at k2
  rw[show O.o nameL t=nameL t by rw[O.h]] at k3
  rw[show O.o (fun l:List Nd=>l.any nmade) l=l.any nmade by rw[O.h]] at hc
  have hQ:madeD (.mk k t n l)=true ↔ madeB (.mk k t n l)=true∧l.any nmade=false:=madeD_iff.trans made_iff
  rw[madeB_iff] at hQ
  have hE:O.o ofL t=ByteArray.empty ↔ t=[]:=by rw[O.h];exact ofL_emp
  have hlen:=Nds.en_len O l
  rw[O.h madeD]
  obtain⟨Q,eQ⟩:∃ Q,Q=madeD (.mk k t n l):=⟨_,rfl⟩
  obtain⟨Pq,eP⟩:∃ Q,Q=pathL t:=⟨_,rfl⟩
  obtain⟨Lq,eL⟩:∃ Q,Q=plainL t:=⟨_,rfl⟩
  obtain⟨Mq,eM⟩:∃ Q,Q=nameL t:=⟨_,rfl⟩
  obtain⟨Cq,eC⟩:∃ Q,Q=l.any nmade:=⟨_,rfl⟩
  obtain⟨T,eT⟩:∃ Q,Q=O.o ofL t:=⟨_,rfl⟩
  obtain⟨N,eN⟩:∃ N,N=l.length:=⟨_,rfl⟩
  rw[← eQ] at hQ ⊢
  rw[← eP] at hQ k1
  rw[← eL] at hQ k2
  rw[← eM] at hQ k3
  rw[← eC] at hQ hc
  rw[← eT] at hE k1 k2 k3
  rw[← eN] at hQ hlen
  rw[← hE] at hQ
  have hC:N=0→Cq=false:=fun h=>by rw[eC];have:l=[]:=List.eq_nil_of_length_eq_zero (by omega);rw[this];rfl
  clear ih eQ eP eL eM eC hE ht hl
  show Fn prog 38 [.agg [.int .i64 k,.str (O.o ofL t),.int .i64 n,.sl false 0 false 4 (O.o Nds.enc l)]] [] [.bool Q] []
  rw[← eT]
  clear eT
  cases Q
  · have hQ:¬ (((k=1∧n=0∧N=0∧Pq=true∧Lq=false)∨(k=2∧0≤n∧n<1000000000000000∧N=0∧T=ByteArray.empty)∨((k=3∨k=4)∧n=0∧N=2∧T=ByteArray.empty)∨(k=5∧n=0∧N=1∧Mq=true))∧Cq=false):=fun h=>by cases hQ.2 h
    refine go (fn:=Proofs.Tryz.f38) (n:=88) (rv:=[ResultVar.tmp 2]) rfl (by decide) rfl (by decide +kernel) rfl rfl (by simp) fun F L C=>?_
    cbv
    (repeat' first|(refine Na ?_ fun _ _=>?_;(focus lia);cbv)|(refine CallThen.bool (C.fn (k1)) (fun _=>?_) (fun _=>?_)<;>cbv)|(refine CallThen.bool (C.fn (k2)) (fun _=>?_) (fun _=>?_)<;>cbv)|(refine CallThen.bool (C.fn (k3)) (fun _=>?_) (fun _=>?_)<;>cbv)|(refine CallThen.bool (C.fn (hc)) (fun _=>?_) (fun _=>?_)<;>cbv)|(refine Nl fun _ _ hq=>?_;(try simp only [lenS] at hq);cbv)|(refine Nm fun _ _=>?_;cbv)|(refine Br.t ?_ ?_;(focus first|assumption|lia);cbv)|(refine Br.f ?_ ?_;(focus first|assumption|lia);cbv)|(refine Br.mk (fun _=>?_) (fun _=>?_)<;>cbv)|(refine Need.mk ?_ ?_;rotate_left;cbv)|(refine R0 ?_;cbv))
    all_goals first
      | exact⟨rfl,trivial⟩
      | (exfalso;clear k1 k2 k3 hc;(try simp only [emp] at *);grind)
      | (exfalso; have hN0 : N = 0 := by (clear k1 k2 k3 hc hQ; lia)
         exact hQ ⟨.inl ⟨by assumption,by assumption,hN0,by assumption,by assumption⟩,by assumption⟩)
      | (exfalso; have hN0 : N = 1 := by (clear k1 k2 k3 hc hQ; lia)
         exact hQ ⟨.inr (.inr (.inr ⟨by assumption,by assumption,hN0,by assumption⟩)),by assumption⟩)
      | trace_state
  · have hQ:=hQ.1 rfl
    refine go (fn:=Proofs.Tryz.f38) (n:=88) (rv:=[ResultVar.tmp 2]) rfl (by decide) rfl (by decide +kernel) rfl rfl (by simp) fun F L C=>?_
    cbv
    (repeat' first|(refine Na ?_ fun _ _=>?_;(focus lia);cbv)|(refine CallThen.bool (C.fn (k1)) (fun _=>?_) (fun _=>?_)<;>cbv)|(refine CallThen.bool (C.fn (k2)) (fun _=>?_) (fun _=>?_)<;>cbv)|(refine CallThen.bool (C.fn (k3)) (fun _=>?_) (fun _=>?_)<;>cbv)|(refine CallThen.bool (C.fn (hc)) (fun _=>?_) (fun _=>?_)<;>cbv)|(refine Nl fun _ _ hq=>?_;(try simp only [lenS] at hq);cbv)|(refine Nm fun _ _=>?_;cbv)|(refine Br.t ?_ ?_;(focus first|assumption|lia);cbv)|(refine Br.f ?_ ?_;(focus first|assumption|lia);cbv)|(refine Br.mk (fun _=>?_) (fun _=>?_)<;>cbv)|(refine Need.mk ?_ ?_;rotate_left;cbv)|(refine R0 ?_;cbv))
    all_goals first
      | exact⟨rfl,trivial⟩
      | (exfalso;clear k1 k2 k3 hc;(try simp only [emp] at *);grind)
      | trace_state
open Go
def headP (s:List UInt8):List UInt8:=s.takeWhile (·≠40)
def tailP (s:List UInt8):List UInt8:=s.dropWhile (·≠40)
def leafR (s:List UInt8):Nd×Bool :=
 if plainL s=true then(.mk 2 [] (natOf (s.take 16):Nat) [],decide (s.length≤15∧digN (natOf (s.take 16))=s)) else(.mk 1 s 0 [],pathL s)
open Classical in
noncomputable def readN:Nat→List UInt8→Nd×Bool
 | 0,_=>(zeroN,false)
 | n+1,s =>
  if s=[] then(zeroN,false)
  else match lastN 43 s with
  | some i=>(sumN (readN n (s.take i)).1 (readN n (s.drop (i+1))).1,(readN n (s.take i)).2 && (readN n (s.drop (i+1))).2)
  | none=>match lastN 42 s with
   | some i=>(mulN (readN n (s.take i)).1 (readN n (s.drop (i+1))).1,(readN n (s.take i)).2 && (readN n (s.drop (i+1))).2)
   | none =>
    if wholeB s then readN n s.tail.dropLast
    else if 40∈s then
     if nameL (headP s)=true∧wholeB (tailP s) then(callN (headP s) (readN n (tailP s).tail.dropLast).1,(readN n (tailP s).tail.dropLast).2) else(zeroN,false)
    else leafR s
theorem leafR_some {s:List UInt8} {x:Xp} (h:leafL s=some x):leafR s=(x.nd,true):=by
 unfold leafL at h
 unfold leafR
 split at h
 ·rename_i k
  rw[if_pos k]
  split at h
  ·rename_i k2
   cases h
   rw[List.take_of_length_le (by omega),decide_eq_true k2.2];rfl
  ·cases h
 ·rename_i k
  rw[if_neg k]
  split at h
  ·rename_i k2;cases h;rw[k2];rfl
  ·cases h
theorem leafR_none {s:List UInt8} (h0:s≠[]) (h:leafL s=none):(leafR s).2=false:=by
 unfold leafL at h
 unfold leafR
 split at h
 ·rename_i k
  rw[if_pos k]
  split at h
  ·cases h
  ·rename_i k2
   simp only [decide_eq_false_iff_not]
   rintro ⟨k3,k4⟩
   rw[List.take_of_length_le (by omega)] at k4
   exact k2 ⟨h0,k3,k4⟩
 ·rename_i k
  rw[if_neg k]
  split at h
  ·cases h
  ·rename_i k2;simpa using k2
theorem readN_X:∀ (n:Nat) (s:List UInt8),(∀ e,readX lexE.toLex n s=some e→readN n s=(e.nd,true))∧(readX lexE.toLex n s=none→(readN n s).2=false)
 | 0,s=>⟨fun e h=>by simp [readX] at h,fun _=>rfl⟩
 | n+1,s=>by
  have ih:=readN_X n
  have two:∀ (f:Nd→Nd→Nd) (g:Xp→Xp→Xp) (a b:List UInt8),(∀ x y,(g x y).nd=f x.nd y.nd) →
    (∀ e,(match readX lexE.toLex n a,readX lexE.toLex n b with|some x,some y=>some (g x y)|_,_=>none)=some e→(f (readN n a).1 (readN n b).1,(readN n a).2 && (readN n b).2)=(e.nd,true)) ∧
    ((match readX lexE.toLex n a,readX lexE.toLex n b with|some x,some y=>some (g x y)|_,_=>none)=none→((readN n a).2 && (readN n b).2)=false):=by
   intro f g a b hg
   cases ha:readX lexE.toLex n a with
   | none =>
    refine⟨fun e h=>by simp at h,fun _=>?_⟩
    rw[(ih a).2 ha];rfl
   | some x =>
    cases hb:readX lexE.toLex n b with
    | none =>
     refine⟨fun e h=>by simp at h,fun _=>?_⟩
     rw[(ih b).2 hb];simp
    | some y =>
     refine⟨fun e h=>?_,fun h=>by simp at h⟩
     simp only [Option.some.injEq] at h
     subst h
     rw[(ih a).1 x ha,(ih b).1 y hb,hg];rfl
  unfold readX readN
  by_cases h0:s=[]
  ·rw[if_pos h0,if_pos h0];exact⟨fun e h=>(by cases h),fun _=>rfl⟩
  rw[if_neg h0,if_neg h0]
  cases h43:lastN 43 s with
  | some i=>exact two sumN .sum _ _ fun x y=>rfl
  | none =>
   cases h42:lastN 42 s with
   | some i=>exact two mulN .mul _ _ fun x y=>rfl
   | none =>
    simp only
    by_cases hw:wholeB s
    ·rw[if_pos hw,if_pos hw];exact ih _
    rw[if_neg hw,if_neg hw]
    by_cases h40:40∈s
    ·rw[if_pos h40,if_pos h40]
     by_cases hc:nameL (headP s)=true∧wholeB (tailP s)
     ·rw[if_pos hc,if_pos (show lexE.toLex.name (s.takeWhile (·≠40))=true∧wholeB (s.dropWhile (·≠40)) from hc)]
      have i2:=ih (tailP s).tail.dropLast
      constructor
      ·intro e h
       simp only [Option.map_eq_some_iff] at h
       obtain⟨y,hy,rfl⟩:=h
       rw[i2.1 y hy];rfl
      ·intro h
       simp only [Option.map_eq_none_iff] at h
       exact i2.2 h
     ·rw[if_neg hc,if_neg (show ¬ (lexE.toLex.name (s.takeWhile (·≠40))=true∧wholeB (s.dropWhile (·≠40))) from hc)]
      exact⟨fun e h=>(by cases h),fun _=>rfl⟩
    ·rw[if_neg h40,if_neg h40]
     exact⟨fun e h=>leafR_some h,fun h=>leafR_none h0 h⟩
theorem read_parse {s:List UInt8} (hl:s.length≤256):((readN 300 s).2=true ↔ (parse0 s).2=([],false))∧((readN 300 s).2=true→(readN 300 s).1=(parse0 s).1):=by
 have a:=reads_agree (s:=s) (n:=300) (m:=300) (by omega) (by omega)
 have b:=readN_X 300 s
 cases hx:readX lexE.toLex 300 s with
 | none =>
  have k:=a.2 hx
  have k2:=b.2 hx
  rw[k2]
  exact⟨⟨fun h=>(by cases h),fun h=>absurd h k⟩,fun h=>by cases h⟩
 | some e =>
  have k:parse0 s=(e.nd,[],false):=a.1 e hx
  have k2:=b.1 e hx
  rw[k,k2]
  exact⟨⟨fun _=>rfl,fun _=>rfl⟩,fun _=>rfl⟩
theorem deep_I (x:Nd):deepB 8 x=true ↔ 8<depthI 9 x:=by
 rw[deep_depth 8 9 x (by decide),depthI];omega
theorem lastI_some {c:UInt8} (hc:parV c=0) {s:List UInt8} {i:Nat} (h:lastN c s=some i):lastI c s s.length=i∧i<s.length:=by
 refine⟨by rw[lastI_end,h],?_⟩
 obtain⟨a,b,rfl,rfl,_,_⟩:=lastN_some hc h
 simp
theorem lastI_none {c:UInt8} {s:List UInt8} (h:lastN c s=none):lastI c s s.length=-1:=by rw[lastI_end,h]
theorem cut_head (s:List UInt8) (i:Nat):ofL (s.take i)=(ofL s).extract 0 i:=by rw[extract_ofL];simp
theorem cut_tail (s:List UInt8) (i:Nat):ofL (s.drop i)=(ofL s).extract i (ofL s).size:=by rw[extract_ofL,size_ofL];simp
theorem cut_mid (s:List UInt8) (p:Nat):ofL ((s.drop p).tail.dropLast)=(ofL s).extract (p+1) ((ofL s).size-1):=by
 rw[extract_ofL,size_ofL,List.dropLast_eq_take,List.tail_drop,List.drop_take,List.length_drop]
 congr 2
 omega
theorem cut_in (s:List UInt8):ofL s.tail.dropLast=(ofL s).extract 1 ((ofL s).size-1):=by
 have:=cut_mid s 0
 simpa using this
theorem head_take (s:List UInt8):headP s=s.take (headP s).length:=by
 have h:headP s++tailP s=s:=List.takeWhile_append_dropWhile
 conv=>rhs;rw[← h]
 rw[List.take_append_of_le_length (by rw[h];exact Nat.le_refl _)]
 rw[h,List.take_of_length_le (Nat.le_refl _)]
theorem tail_drop (s:List UInt8):tailP s=s.drop (headP s).length:=by
 have h:headP s++tailP s=s:=List.takeWhile_append_dropWhile
 have k:=congrArg (List.drop (headP s).length) h
 rw[List.drop_left] at k
 exact k
theorem head_all:∀ (s:List UInt8),∀ c∈headP s,c≠40
 | [],c,h=>by cases h
 | d::r,c,h=>by
  unfold headP at h
  rw[List.takeWhile_cons] at h
  split at h
  ·rename_i k
   rcases List.mem_cons.1 h with rfl|h
   ·simpa using k
   ·exact head_all r c h
  ·cases h
theorem tail_at:∀ {s:List UInt8} {c:UInt8} {r:List UInt8},tailP s=c::r→c=40
 | [],c,r,h=>by cases h
 | d::t,c,r,h=>by
  unfold tailP at h
  rw[List.dropWhile_cons] at h
  split at h
  ·exact tail_at (s:=t) h
  ·rename_i k
   cases h
   simpa using k
theorem head_no {s:List UInt8} {j:Nat} (h:j<(headP s).length):¬ ((s.getD j 0).toNat:Int)=40:=fun e=>by
 have hl:(headP s).length≤s.length:=(List.takeWhile_sublist _).length_le
 have h1:=getD_some (s:=s) (i:=j) (by omega)
 rw[(u8_int (c:=s.getD j 0) (k:=40) (by decide)).1 e] at h1
 have h2:(headP s)[j]?=some 40:=by
  rw[head_take s,List.getElem?_take,if_pos h];exact h1
 have h3:=List.mem_of_getElem? h2
 exact head_all s _ h3 rfl
theorem head_at {s:List UInt8} (h:40∈s):(headP s).length<s.length∧((s.getD (headP s).length 0).toNat:Int)=40:=by
 have hs:headP s++tailP s=s:=List.takeWhile_append_dropWhile
 have hne:tailP s≠[]:=fun e=>by
  have h40:40∈headP s:=by rw[e,List.append_nil] at hs;rw[hs];exact h
  exact head_all s _ h40 rfl
 obtain⟨c,r,hcr⟩:=List.exists_cons_of_ne_nil hne
 have hc:c=40:=tail_at hcr
 have hl:(headP s).length<s.length:=by
  have:=congrArg List.length hs
  rw[hcr] at this;simp at this;omega
 refine⟨hl,?_⟩
 have:s[(headP s).length]?=some c:=by
  have k:(headP s++tailP s)[(headP s).length]?=some c:=by rw[List.getElem?_append_right (Nat.le_refl _),Nat.sub_self,hcr];rfl
  rwa [hs] at k
 rw[List.getD_eq_getElem?_getD,this,hc];rfl
open Classical in
theorem wholeD_yes {s:List UInt8} (h:wholeB s):wholeD s=true:=decide_eq_true h
open Classical in
theorem wholeD_not {s:List UInt8} (h:¬ wholeB s):wholeD s=false:=decide_eq_false h
def NumsJ (l:List Int):List (List PV):=l.map fun x=>[.int .i64 x]
theorem NumsJ.len (O:Opq) (l:List Int):(O.o NumsJ l).length=l.length:=by rw[O.h];simp [NumsJ]
open Classical in
noncomputable def inJ (v:Int) (l:List Int):Bool:=decide (v∈l)
open Classical in
noncomputable def idxJ (v:Int) (l:List Int):Int:=if v∈l then(l.idxOf v:Nat) else -1
theorem Ex.numJ (O:Opq) {l:List Int} {k:Nat} {x:Int} (hx:l[k]?=some x) {i:Int} {K:List PV→Prop} (hi:i=k) (h:K [.int .i64 x]):Ex (List PV) (fun row=>0≤i∧(O.o NumsJ l)[i.toNat]?=some row) K :=
 .mk _ ⟨by omega,by rw[O.h,hi,Int.toNat_natCast,NumsJ,List.getElem?_map,hx];rfl⟩ h
theorem idxJ_at {v:Int} {l:List Int} {k:Nat} (hk:l[k]?=some v) (h:∀ (j:Nat) x,j<k→l[j]?=some x→v≠x):idxJ v l=k:=by
 have hlt:=(List.getElem?_eq_some_iff.1 hk).1
 have he:=(List.getElem?_eq_some_iff.1 hk).2
 rw[idxJ,if_pos (List.mem_of_getElem? hk)]
 refine congrArg _ ?_
 rw[List.idxOf,List.findIdx_eq hlt]
 refine⟨by rw[he];simp,fun j hj=>?_⟩
 have:=h j l[j] hj (by simp)
 simp only [beq_eq_false_iff_ne]
 exact fun e=>this e.symm
theorem idxJ_no {v:Int} {l:List Int} (h:∀ (j:Nat) x,j<l.length→l[j]?=some x→v≠x):idxJ v l=-1:=by
 rw[idxJ,if_neg]
 intro hm
 obtain⟨j,hj,e⟩:=List.getElem_of_mem hm
 exact h j l[j] hj (by simp) e.symm
theorem idxJ_ge (v:Int) (l:List Int):(0≤idxJ v l ↔ inJ v l=true):=by
 rw[idxJ,inJ]
 by_cases h:v∈l
 ·simp [h]
 ·simp [h]
theorem indexJ_fn0 (O:Opq) (l:List Int) (v:Int) (hl:l.length≤1000000):Fn prog 92 [.sl true 0 false 1 (O.o NumsJ l),.int .i64 v] [] [.int .i64 (O.o (idxJ v) l)] []:=by
 have hlen:=NumsJ.len O l
 obtain⟨z,hz⟩:∃ z:Nat,z=0:=⟨_,rfl⟩
 obtain⟨N,hN⟩:∃ N:Nat,N=l.length:=⟨_,rfl⟩
 refine go (fn:=Proofs.Tryz.f92) (n:=17) (rv:=[ResultVar.tmp 4]) rfl (by decide) rfl (by decide +kernel) rfl rfl (by simp) fun F L C=>?_
 cbv
 (repeat' first|(refine Na ?_ fun _ _=>?_;(focus lia);cbv)|(refine Nl fun _ _ hq=>?_;(try simp only [lenS] at hq);cbv)|(refine Nm fun _ _=>?_;cbv)|(refine Br.t ?_ ?_;(focus first|assumption|lia);cbv)|(refine Br.f ?_ ?_;(focus first|assumption|lia);cbv)|(refine Br.mk (fun _=>?_) (fun _=>?_)<;>cbv)|(refine Need.mk ?_ ?_;rotate_left;cbv)|(refine R0 ?_;cbv))
 refine LoopThen.mk (C.loopAt (ι:=Nat) [(4,5),(8,18)] (fun k=>[(4,.int .i64 0),(8,.int .i64 k)]) (fun _=>[])
  (fun k=>k≤l.length∧∀ (j:Nat) x,j<k→l[j]?=some x→v≠x) (fun k=>N-k) (by decide +kernel) (Start.mk z [] [] ⟨by omega,fun j x hj=>by omega⟩ (by cbv;(repeat' apply And.intro)<;>first|exact True.intro|exact WkR.refl _|rfl|lia)) ?_)
 intro k g
 cbv
 have g1:k≤l.length:=g.1
 have g2:=g.2
 clear g
 by_cases hk:k<l.length
 ·obtain⟨x,hx⟩:∃ x,l[k]?=some x:=⟨l[k],by simp [hk]⟩
  have hyes:v=x→O.o (idxJ v) l=k:=fun e=>by rw[O.h];exact idxJ_at (by rw[e];exact hx) g2
  have hst:v≠x→∀ (j:Nat) y,j<k+1→l[j]?=some y→v≠y:=fun h j y hj hy=>by
   by_cases ej:j=k
   ·subst ej;rw[hx] at hy;cases hy;exact h
   ·exact g2 j y (by omega) hy
  obtain⟨Q,eQ⟩:∃ Q,Q=O.o (idxJ v) l:=⟨_,rfl⟩
  rw[← eQ] at hyes ⊢
  clear g2 eQ
  (repeat' first|(refine Na ?_ fun _ _=>?_;(focus lia);cbv)|(refine Ex.numJ O hx ?_ ?_;(focus(clear hst hyes;lia));cbv)|(refine Back.up [] [] ?_ ?_ fun _ _=>?_;rotate_left 2;cbv;refine And.intro ?_ ?_)|(refine Nl fun _ _ hq=>?_;(try simp only [lenS] at hq);cbv)|(refine Nm fun _ _=>?_;cbv)|(refine Br.t ?_ ?_;(focus first|assumption|lia);cbv)|(refine Br.f ?_ ?_;(focus first|assumption|lia);cbv)|(refine Br.mk (fun _=>?_) (fun _=>?_)<;>cbv)|(refine Need.mk ?_ ?_;rotate_left;cbv)|(refine R0 ?_;cbv))
  all_goals(repeat' apply And.intro)
  all_goals try first
   | exact True.intro
   | exact WkR.refl _
   | (clear hx hst hyes;lia)
  all_goals first
   | exact hst (by assumption)
   | (rw[hyes (by assumption)];clear hx hst hyes;lia)
   | trace_state
 ·have hno:O.o (idxJ v) l=-1:=by rw[O.h];exact idxJ_no fun j x hj hx=>g2 j x (by omega) hx
  rw[hno]
  clear g2
  (repeat' first|(refine Na ?_ fun _ _=>?_;(focus lia);cbv)|(refine Nl fun _ _ hq=>?_;(try simp only [lenS] at hq);cbv)|(refine Nm fun _ _=>?_;cbv)|(refine Br.t ?_ ?_;(focus first|assumption|lia);cbv)|(refine Br.f ?_ ?_;(focus first|assumption|lia);cbv)|(refine Br.mk (fun _=>?_) (fun _=>?_)<;>cbv)|(refine Need.mk ?_ ?_;rotate_left;cbv)|(refine R0 ?_;cbv))
  all_goals first
   | exact⟨rfl,trivial⟩
   | (exfalso;lia)
   | trace_state
theorem indexJ_fn (O:Opq) (l:List Int) (v:Int) (hl:l.length≤1000000):Fn prog 92 [.sl false 0 false 1 (O.o NumsJ l),.int .i64 v] [] [.int .i64 (O.o (idxJ v) l)] []:=(indexJ_fn0 O l v hl).wkA (.cons (.lend rfl) (.cons (.refl _) .nil))
theorem containsJ_fn (O:Opq) (l:List Int) (v:Int) (hl:l.length≤1000000):Fn prog 62 [.sl false 0 false 1 (O.o NumsJ l),.int .i64 v] [] [.bool (O.o (inJ v) l)] []:=by
 have k:=indexJ_fn O l v hl
 have hi:(0≤O.o (idxJ v) l ↔ O.o (inJ v) l=true):=by rw[O.h,O.h];exact idxJ_ge v l
 obtain⟨Q,eQ⟩:∃ Q,Q=O.o (idxJ v) l:=⟨_,rfl⟩
 rw[← eQ] at k hi
 obtain⟨B,eB⟩:∃ Q,Q=O.o (inJ v) l:=⟨_,rfl⟩
 rw[← eB] at hi ⊢
 clear eQ eB
 cases B
 all_goals
  refine go (fn:=Proofs.Tryz.f62) (n:=7) (rv:=[ResultVar.tmp 4]) rfl (by decide) rfl (by decide +kernel) rfl rfl (by simp) fun F L C=>?_
  cbv
  (repeat' first|(refine Na ?_ fun _ _=>?_;(focus lia);cbv)|(refine CallThen.mk _ _ (C.fn (k)) ?_;cbv)|(refine Nl fun _ _ hq=>?_;(try simp only [lenS] at hq);cbv)|(refine Nm fun _ _=>?_;cbv)|(refine Br.t ?_ ?_;(focus first|assumption|lia);cbv)|(refine Br.f ?_ ?_;(focus first|assumption|lia);cbv)|(refine Br.mk (fun _=>?_) (fun _=>?_)<;>cbv)|(refine Need.mk ?_ ?_;rotate_left;cbv)|(refine R0 ?_;cbv))
  all_goals first
   | exact⟨rfl,trivial⟩
   | (exfalso;simp at hi;clear k;lia)
   | trace_state
theorem cons_snoc {α:Type} {a:α} {L D:List α} {x:α} (h:a::L=D++[x]):(L=[]∧D=[]∧a=x)∨∃ D',D=a::D'∧L=D'++[x]:=by
 cases D with
 | nil=>simp at h;exact .inl ⟨h.2,rfl,h.1⟩
 | cons d D'=>simp at h;exact .inr ⟨D',by rw[h.1],h.2⟩
theorem split_snoc:∀ (l:List UInt8) (c:UInt8) (D:List (List UInt8)) (x:List UInt8),splitLC l=D++[x]→splitLC (l++[c])=if c=44 then D++[x]++[[]] else D++[x++[c]]
 | [],c,D,x,h=>by
  rcases cons_snoc (show[]::[]=D++[x] from h) with ⟨_,rfl,rfl⟩ | ⟨D',_,h2⟩
  ·simp only [List.nil_append,splitLC];rfl
  ·simp at h2
 | d::r,c,D,x,h=>by
  rw[List.cons_append]
  simp only [splitLC] at h ⊢
  by_cases hd:d=44
  ·rw[if_pos hd] at h ⊢
   rcases cons_snoc h with ⟨h1,_,_⟩ | ⟨D',rfl,h2⟩
   ·exact absurd h1 (splitL_neC r)
   ·rw[split_snoc r c D' x h2]
    split<;>simp
  ·rw[if_neg hd] at h ⊢
   cases hs:splitLC r with
   | nil=>exact absurd hs (splitL_neC r)
   | cons p ps =>
    rw[hs] at h
    rcases cons_snoc h with ⟨rfl,rfl,rfl⟩ | ⟨D',rfl,rfl⟩
    ·rw[split_snoc r c [] p (by rw[hs];rfl)]
     by_cases hc:c=44
     ·simp [hc]
     ·simp [hc]
    ·rw[split_snoc r c (p::D') x (by rw[hs];rfl)]
     by_cases hc:c=44
     ·simp [hc]
     ·simp [hc]
def CutAt (s:List UInt8) (i st:Nat) (D:List (List UInt8)):Prop :=
 st≤i∧((i≤s.length∧splitLC (s.take i)=D++[(s.take i).drop st])∨(i=s.length+1∧D=splitLC s))
theorem CutAt.start (s:List UInt8):CutAt s 0 0 []:=⟨Nat.le_refl _,.inl ⟨Nat.zero_le _,rfl⟩⟩
theorem CutAt.comma {s:List UInt8} {i st:Nat} {D:List (List UInt8)} (h:CutAt s i st D) (hi:i<s.length) (hc:s.getD i 0=44):CutAt s (i+1) (i+1) (D++[(s.take i).drop st]):=by
 obtain⟨h1,h2|h2⟩:=h
 ·refine⟨Nat.le_refl _,.inl ⟨by omega,?_⟩⟩
  rw[take_snoc (getD_some hi),split_snoc _ _ _ _ h2.2,if_pos hc]
  simp
  omega
 ·omega
theorem CutAt.go {s:List UInt8} {i st:Nat} {D:List (List UInt8)} (h:CutAt s i st D) (hi:i<s.length) (hc:¬ s.getD i 0=44):CutAt s (i+1) st D:=by
 obtain⟨h1,h2|h2⟩:=h
 ·refine⟨by omega,.inl ⟨by omega,?_⟩⟩
  rw[take_snoc (getD_some hi),split_snoc _ _ _ _ h2.2,if_neg hc,List.drop_append_of_le_length (by rw[List.length_take];omega)]
 ·omega
theorem CutAt.last {s:List UInt8} {i st:Nat} {D:List (List UInt8)} (h:CutAt s i st D) (hi:i=s.length):CutAt s (i+1) (i+1) (D++[(s.take i).drop st]):=by
 obtain⟨h1,h2|h2⟩:=h
 ·refine⟨Nat.le_refl _,.inr ⟨by omega,?_⟩⟩
  rw[← h2.2,hi,List.take_length]
 ·omega
theorem CutAt.done {s:List UInt8} {i st:Nat} {D:List (List UInt8)} (h:CutAt s i st D) (hi:¬ i≤s.length):D=splitLC s:=by
 obtain⟨h1,h2|h2⟩:=h
 ·omega
 ·exact h2.2
theorem CutAt.le {s:List UInt8} {i st:Nat} {D:List (List UInt8)} (h:CutAt s i st D):i≤s.length+1∧st≤i:=by
 obtain⟨h1,h2|h2⟩:=h<;>omega
theorem CutAt.count {s:List UInt8} {i st:Nat} {D:List (List UInt8)} (h:CutAt s i st D):D.length≤i:=by
 obtain⟨h1,h2|h2⟩:=h
 ·have:=congrArg List.length h2.2
  rw[split_count] at this
  simp only [List.length_append,List.length_cons,List.length_nil] at this
  have k:=List.count_le_length (a:=(44:UInt8)) (l:=s.take i)
  rw[List.length_take] at k
  omega
 ·rw[h2.2,split_count]
  have k:=List.count_le_length (a:=(44:UInt8)) (l:=s)
  omega
theorem Strs_snoc (O:Opq) (D:List (List UInt8)) (p:List UInt8):O.o Strs ((D++[p]).map ofL)=O.o Strs (D.map ofL)++[[.str (O.o ofL p)]]:=by
 simp only [O.h,Strs_eq,List.map_append,List.map_cons,List.map_nil];rfl
theorem cut_range (s:List UInt8) (a b:Nat):ofL ((s.take b).drop a)=(ofL s).extract a b:=(extract_ofL s a b).symm
end Go.Sym
