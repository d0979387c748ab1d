/- Which expressions may be; an expression's value, if it and the document may be (walks). -/
import Derived.Test.YtaedpfkpdeaibaaGreatDoorK18
import Derived.Test.YtaedpfkpdeaibaaGreatDoorK21
import Derived.Test.YtaedpfkpdeaibaaGreatDoorK22
set_option linter.all false
set_option linter.unusedVariables false
set_option linter.unusedSimpArgs false
namespace Go.Sym
open Go Go.Proofs.Tryz
set_option maxRecDepth 100000
noncomputable def chkE (x:Nd):Int:=if deepB 8 x=true then 13 else if madeD x=true then 0 else 1
theorem chkE_ok {x:Nd}:chkE x=0 ↔ deepB 8 x=false∧Made x:=by
 unfold chkE
 cases h:deepB 8 x
 ·simp only [Bool.false_eq_true,if_false,true_and,← madeD_iff]
  split<;>simp_all
 ·simp
theorem echeck_fn (O:Opq) {x:Nd} (hx:NdS x):Fn prog 23 [.agg (x.en O)] [] [.int .i64 (chkE x)] []:=by
 have k1:=edeep_fn O 8 (by omega) x hx.b 8 rfl
 have k2:=epure_fn O hx
 rw[show O.o (deepB 8) x=deepB 8 x by rw[O.h]] at k1
 rw[show O.o madeD x=madeD x by rw[O.h]] at k2
 have hQ:chkE x=if deepB 8 x=true then 13 else if madeD x=true then 0 else 1:=rfl
 obtain⟨Q,eQ⟩:∃ Q,Q=chkE x:=⟨_,rfl⟩
 obtain⟨D,eD⟩:∃ Q,Q=deepB 8 x:=⟨_,rfl⟩
 obtain⟨M,eM⟩:∃ Q,Q=madeD x:=⟨_,rfl⟩
 rw[← eD] at k1 hQ
 rw[← eM] at k2 hQ
 rw[← eQ] at hQ ⊢
 clear eQ eD eM hx
 obtain⟨k,t,n,l⟩:=x
 cases D<;>cases M
 all_goals
  (try rw[if_neg (by decide)] at hQ)
  (try rw[if_pos (by decide)] at hQ)
  (try rw[if_neg (by decide)] at hQ)
  subst hQ
  refine go (fn:=Proofs.Tryz.f23) (n:=9) (rv:=[ResultVar.tmp 2]) rfl (by decide) rfl (by decide +kernel) rfl rfl (by simp) fun F L C=>?_
  cbv
  (repeat' first|(refine Na ?_ fun _ _=>?_;(focus lia);cbv)|(refine CallThen.mk _ _ (C.fn (k1)) ?_;cbv)|(refine CallThen.mk _ _ (C.fn (k2)) ?_;cbv)|(refine Nl fun _ _ hq=>?_;(try simp only [lenS] at hq);cbv)|(refine Nm fun _ _=>?_;cbv)|(refine Br.t ?_ ?_;(focus first|assumption|lia);cbv)|(refine Br.f ?_ ?_;(focus first|assumption|lia);cbv)|(refine Br.mk (fun _=>?_) (fun _=>?_)<;>cbv)|(refine Need.mk ?_ ?_;rotate_left;cbv)|(refine R0 ?_;cbv))
  all_goals first
   | exact⟨rfl,trivial⟩
   | (exfalso;clear k1 k2;lia)
   | trace_state
noncomputable def evO (d:Doc) (x:Nd):Option Val:=if chkE x=0 then(if may d=true then valO d x else none) else none
noncomputable def evV (d:Doc) (x:Nd):Val:=(evO d x).getD zeroV
noncomputable def evB (d:Doc) (x:Nd):Bool:=(evO d x).isSome
theorem ev_no {d:Doc} {x:Nd} (h:evO d x=none):evV d x=zeroV∧evB d x=false:=by rw[evV,evB,h];exact⟨rfl,rfl⟩
theorem ev_val {d:Doc} {x:Nd} (h:chkE x=0) (k:may d=true):evV d x=valV d x∧evB d x=valB d x:=by rw[evV,evB,evO,if_pos h,if_pos k];exact⟨rfl,rfl⟩
theorem evO_ok {d:Doc} {x:Nd} {v:Val} (h:evO d x=some v):v.Ok:=by
 unfold evO at h
 split at h
 ·split at h
  ·exact valO_ok h
  ·cases h
 ·cases h
theorem eeval_fn (O:Opq) (d:Doc) (hd:d.length≤1099511627776)  {x:Nd} (hx:NdS x):Fn prog 13 [.agg (x.en O),.sl false 0 false 6 (O.o Doc.enc d)] [] [.agg (Val.enc (O.o (evV d) x)),.bool (O.o (evB d) x)] []:=by
 rw[O.h (evV d),O.h (evB d)]
 obtain⟨Q,hQ⟩:∃ Q,Q=evV d x:=⟨_,rfl⟩
 obtain⟨T,hT⟩:∃ T,T=evB d x:=⟨_,rfl⟩
 rw[← hQ,← hT]
 have k1:=echeck_fn O hx
 by_cases h1:chkE x=0
 ·rw[h1] at k1
  have k2:=check_fn O d hd;rw[show O.o docErr d=docErr d by rw[O.h]] at k2
  by_cases h2:may d=true
  ·obtain⟨e1,e2⟩:=ev_val h1 h2
   have k3:=value_fn O d hd (chkE_ok.1 h1).2
   rw[O.h (valV d),O.h (valB d),← e1,← e2,← hQ,← hT] at k3
   rw[show docErr d=0 by rw[docErr,if_pos h2]] at k2
   clear e1 e2 h1 h2 hx hQ hT
   obtain⟨k,t,n,l⟩:=x
   obtain⟨q1,q2,q3,q4,q5⟩:=Q
   refine go (fn:=Proofs.Tryz.f13) (n:=18) (rv:=[ResultVar.cell 4 37,ResultVar.tmp 5]) rfl (by decide) rfl (by decide +kernel) rfl rfl (by simp) fun F L C=>?_
   cbv
   (repeat' first|(refine Na ?_ fun _ _=>?_;(focus lia);cbv)|(refine CallThen.mk _ _ (C.fn (k1)) ?_;cbv)|(refine CallThen.mk _ _ (C.fn (k2)) ?_;cbv)|(refine CallThen.mk _ _ (C.fn (k3)) ?_;cbv)|(refine Nl fun _ _ hq=>?_;(try simp only [lenS] at hq);cbv)|(refine Nm fun _ _=>?_;cbv)|(refine Br.t ?_ ?_;(focus first|assumption|lia);cbv)|(refine Br.f ?_ ?_;(focus first|assumption|lia);cbv)|(refine Br.mk (fun _=>?_) (fun _=>?_)<;>cbv)|(refine Need.mk ?_ ?_;rotate_left;cbv)|(refine R0 ?_;cbv))
   all_goals first
    | exact⟨rfl,rfl,rfl,rfl,rfl,rfl,trivial⟩
    | (exfalso;clear k1 k2 k3;lia)
    | trace_state
  ·obtain⟨e1,e2⟩:=ev_no (d:=d) (x:=x) (by rw[evO,if_pos h1,if_neg h2])
   rw[← hQ] at e1;rw[← hT] at e2
   subst e1;subst e2
   rw[show docErr d=1 by rw[docErr,if_neg h2]] at k2
   clear h1 h2 hx hQ hT
   obtain⟨k,t,n,l⟩:=x
   refine go (fn:=Proofs.Tryz.f13) (n:=18) (rv:=[ResultVar.cell 4 37,ResultVar.tmp 5]) rfl (by decide) rfl (by decide +kernel) rfl rfl (by simp) fun F L C=>?_
   cbv
   (repeat' first|(refine Na ?_ fun _ _=>?_;(focus lia);cbv)|(refine CallThen.mk _ _ (C.fn (k1)) ?_;cbv)|(refine CallThen.mk _ _ (C.fn (k2)) ?_;cbv)|(refine Nl fun _ _ hq=>?_;(try simp only [lenS] at hq);cbv)|(refine Nm fun _ _=>?_;cbv)|(refine Br.t ?_ ?_;(focus first|assumption|lia);cbv)|(refine Br.f ?_ ?_;(focus first|assumption|lia);cbv)|(refine Br.mk (fun _=>?_) (fun _=>?_)<;>cbv)|(refine Need.mk ?_ ?_;rotate_left;cbv)|(refine R0 ?_;cbv))
   all_goals first
    | exact⟨rfl,rfl,rfl,rfl,rfl,rfl,trivial⟩
    | exact⟨rfl,trivial⟩
    | exact trivial
    | (exfalso;clear k1 k2;lia)
    | trace_state
 ·obtain⟨e1,e2⟩:=ev_no (d:=d) (x:=x) (by rw[evO,if_neg h1])
  rw[← hQ] at e1;rw[← hT] at e2
  subst e1;subst e2
  obtain⟨E,hE⟩:∃ E,E=chkE x:=⟨_,rfl⟩
  rw[← hE] at k1 h1
  clear hx hQ hT hE
  obtain⟨k,t,n,l⟩:=x
  refine go (fn:=Proofs.Tryz.f13) (n:=18) (rv:=[ResultVar.cell 4 37,ResultVar.tmp 5]) rfl (by decide) rfl (by decide +kernel) rfl rfl (by simp) fun F L C=>?_
  cbv
  (repeat' first|(refine Na ?_ fun _ _=>?_;(focus lia);cbv)|(refine CallThen.mk _ _ (C.fn (k1)) ?_;cbv)|(refine Nl fun _ _ hq=>?_;(try simp only [lenS] at hq);cbv)|(refine Nm fun _ _=>?_;cbv)|(refine Br.t ?_ ?_;(focus first|assumption|lia);cbv)|(refine Br.f ?_ ?_;(focus first|assumption|lia);cbv)|(refine Br.mk (fun _=>?_) (fun _=>?_)<;>cbv)|(refine Need.mk ?_ ?_;rotate_left;cbv)|(refine R0 ?_;cbv))
  all_goals first
   | exact⟨rfl,rfl,rfl,rfl,rfl,rfl,trivial⟩
   | exact⟨rfl,trivial⟩
   | exact trivial
   | (exfalso;clear k1;lia)
   | trace_state
set_option maxHeartbeats 4000000 in
theorem rmade_fn (O:Opq) {x:Nd} (hx:NdS x):Fn prog 37 [.agg (x.en O)] [] [.bool (O.o madeD x)] []:=by
  induction hx with
  | @mk k t n l hl ht _ ih =>
  have k1:=rpath_fn O (O.o ofL t) (by rw[O.h,size_ofL];omega)
  rw[show O.o isPath (O.o ofL t)=pathL t by simp only [O.h];exact isPath_L t] at k1
  have k2:=rplain_fn O t (by omega)
  have k3:=rname_fn O t
  rw[show O.o plainL t=plainL t by rw[O.h]] at k2
  rw[show O.o nameL t=nameL t by rw[O.h]] at k3
  have hQ:madeD (.mk k t n l)=true ↔ madeB (.mk k t n l)=true∧l.any nmade=false:=madeD_iff.trans made_iff
  rw[madeB_iff] at hQ
  have hE:O.o ofL t=ByteArray.empty ↔ t=[]:=by rw[O.h];exact ofL_emp
  have hlen:=Nds.en_len O l
  rw[O.h madeD]
  obtain⟨Q,eQ⟩:∃ Q,Q=madeD (.mk k t n l):=⟨_,rfl⟩
  obtain⟨Pq,eP⟩:∃ Q,Q=pathL t:=⟨_,rfl⟩
  obtain⟨Lq,eL⟩:∃ Q,Q=plainL t:=⟨_,rfl⟩
  obtain⟨Mq,eM⟩:∃ Q,Q=nameL t:=⟨_,rfl⟩
  obtain⟨T,eT⟩:∃ Q,Q=O.o ofL t:=⟨_,rfl⟩
  obtain⟨N,eN⟩:∃ N,N=l.length:=⟨_,rfl⟩
  obtain⟨z,hz⟩:∃ z:Nat,z=0:=⟨_,rfl⟩
  rw[← eQ] at hQ ⊢
  rw[← eP] at hQ k1
  rw[← eL] at hQ k2
  rw[← eM] at hQ k3
  rw[← eT] at hE k1 k2 k3
  rw[← eN] at hlen hQ hl
  rw[← hE] at hQ
  have hno:∀ (i:Nat) a,l[i]?=some a→madeD a=false→Q=false:=fun i a ha h=>by
    cases Q with
    | false=>rfl
    | true =>
      have:=List.any_eq_false.1 (hQ.1 rfl).2 a (List.mem_of_getElem? ha)
      simp [nmade,h] at this
  have hall:(∀ (i:Nat) a,i<N→l[i]?=some a→madeD a=true)→l.any nmade=false:=fun h=>by
    rw[List.any_eq_false]
    intro a ha
    obtain⟨i,hi,rfl⟩:=List.getElem_of_mem ha
    simp [nmade,h i _ (by omega) (List.getElem?_eq_getElem hi)]
  clear eQ eP eL eM hE ht
  show Fn prog 37 [.agg [.int .i64 k,.str (O.o ofL t),.int .i64 n,.sl false 0 false 4 (O.o Nds.enc l)]] [] [.bool Q] []
  rw[← eT]
  clear eT
  refine go (fn:=Proofs.Tryz.f37) (n:=91) (rv:=[ResultVar.tmp 2]) rfl (by decide) rfl (by decide +kernel) rfl rfl (by simp) fun F L C=>?_
  cbv
  (repeat' first|(refine Na ?_ fun _ _=>?_;(focus lia);cbv)|(refine Nl fun _ _ hq=>?_;(try simp only [lenS] at hq);cbv)|(refine Nm fun _ _=>?_;cbv)|(refine Br.t ?_ ?_;(focus first|assumption|lia);cbv)|(refine Br.f ?_ ?_;(focus first|assumption|lia);cbv)|(refine Br.mk (fun _=>?_) (fun _=>?_)<;>cbv)|(refine Need.mk ?_ ?_;rotate_left;cbv)|(refine R0 ?_;cbv))
  refine LoopThen.mk (C.loopAt (ι:=Nat) [(2,3),(5,18)] (fun i=>[(3,.int .i64 i)]) (fun _=>[(192,.box [.int .i64 k,.str T,.int .i64 n,.sl false 0 false 4 (O.o Nds.enc l)])])
    (fun i=>i≤N∧∀ (j:Nat) a,j<i→l[j]?=some a→madeD a=true) (fun i=>N-i) (by decide +kernel) (Start.mk z [] [] ⟨by omega,fun j a hj=>by omega⟩ ?_) ?_)
  · clear hno hall hQ k1 k2 k3 ih
    cbv
    (repeat' apply And.intro)<;>first|exact True.intro|exact WkR.refl _|rfl|lia|trace_state
  intro i g
  cbv
  have g1:i≤N:=g.1
  have g2:∀ (j:Nat) a,j<i→l[j]?=some a→madeD a=true:=g.2
  clear g
  by_cases hi:i<N
  · obtain⟨a,ha⟩:∃ a,l[i]?=some a:=⟨l[i]'(by omega),List.getElem?_eq_getElem (by omega)⟩
    have hc:=ih a (List.mem_of_getElem? ha)
    rw[O.h madeD] at hc
    have hno:=hno i a ha
    have hst:madeD a=true→∀ (j:Nat) b,j<i+1→l[j]?=some b→madeD b=true:=fun h j b hj hb=>by
      by_cases e:j=i
      · subst e;rw[ha] at hb;cases hb;exact h
      · exact g2 j b (by omega) hb
    obtain⟨B,eB⟩:∃ B,B=madeD a:=⟨_,rfl⟩
    rw[← eB] at hc hno hst
    clear g2 ih hall hQ eB k1 k2 k3
    obtain⟨ak,at',an,al⟩:=a
    cases B
    · have hQ:=hno rfl
      subst hQ
      clear hst hno
      (repeat' first|(refine Na ?_ fun _ _=>?_;(focus lia);cbv)|(refine Ex.nd O ha ?_ ?_;(focus(clear hc;lia));cbv)|(refine CallThen.mk _ _ (C.fn (hc)) ?_;cbv)|(refine Nl fun _ _ hq=>?_;(try simp only [lenS] at hq);cbv)|(refine Nm fun _ _=>?_;cbv)|(refine Br.t ?_ ?_;(focus first|assumption|lia);cbv)|(refine Br.f ?_ ?_;(focus first|assumption|lia);cbv)|(refine Br.mk (fun _=>?_) (fun _=>?_)<;>cbv)|(refine Need.mk ?_ ?_;rotate_left;cbv)|(refine R0 ?_;cbv))
      all_goals first
        | exact⟨rfl,trivial⟩
        | (exfalso;clear hc;lia)
        | trace_state
    · have hst:=hst rfl
      clear hno
      (repeat' first|(refine Na ?_ fun _ _=>?_;(focus lia);cbv)|(refine Ex.nd O ha ?_ ?_;(focus(clear hc hst;lia));cbv)|(refine CallThen.mk _ _ (C.fn (hc)) ?_;cbv)|(refine Back.up [] [] ?_ ?_ fun _ _=>?_;rotate_left 2;cbv;refine And.intro ?_ ?_)|(refine Nl fun _ _ hq=>?_;(try simp only [lenS] at hq);cbv)|(refine Nm fun _ _=>?_;cbv)|(refine Br.t ?_ ?_;(focus first|assumption|lia);cbv)|(refine Br.f ?_ ?_;(focus first|assumption|lia);cbv)|(refine Br.mk (fun _=>?_) (fun _=>?_)<;>cbv)|(refine Need.mk ?_ ?_;rotate_left;cbv)|(refine R0 ?_;cbv))
      all_goals(repeat' apply And.intro)
      all_goals first
        | exact True.intro
        | exact WkR.refl _
        | rfl
        | exact hst
        | (clear hc hst;lia)
        | trace_state
  · have hC:=hall fun j a hj=>g2 j a (by omega)
    rw[hC] at hQ
    clear hno hall g2 ih hC
    cases Q
    · have hQ:¬ ((k=1∧n=0∧N=0∧Pq=true∧Lq=false)∨(k=2∧0≤n∧n<1000000000000000∧N=0∧T=ByteArray.empty)∨((k=3∨k=4)∧n=0∧N=2∧T=ByteArray.empty)∨(k=5∧n=0∧N=1∧Mq=true)):=fun h=>by cases hQ.2 ⟨h,rfl⟩
      (repeat' first|(refine Na ?_ fun _ _=>?_;(focus lia);cbv)|(refine CallThen.bool (C.fn (k1)) (fun _=>?_) (fun _=>?_)<;>cbv)|(refine CallThen.bool (C.fn (k2)) (fun _=>?_) (fun _=>?_)<;>cbv)|(refine CallThen.bool (C.fn (k3)) (fun _=>?_) (fun _=>?_)<;>cbv)|(refine Nl fun _ _ hq=>?_;(try simp only [lenS] at hq);cbv)|(refine Nm fun _ _=>?_;cbv)|(refine Br.t ?_ ?_;(focus first|assumption|lia);cbv)|(refine Br.f ?_ ?_;(focus first|assumption|lia);cbv)|(refine Br.mk (fun _=>?_) (fun _=>?_)<;>cbv)|(refine Need.mk ?_ ?_;rotate_left;cbv)|(refine R0 ?_;cbv))
      all_goals first
        | exact⟨rfl,trivial⟩
        | (exfalso;clear k1 k2 k3;(try simp only [emp] at *);grind)
        | (exfalso; have hN0 : N = 0 := by (clear k1 k2 k3 hQ; lia)
           exact hQ (.inl ⟨by assumption,by assumption,hN0,by assumption,by assumption⟩))
        | (exfalso; have hN0 : N = 1 := by (clear k1 k2 k3 hQ; lia)
           exact hQ (.inr (.inr (.inr ⟨by assumption,by assumption,hN0,by assumption⟩))))
        | trace_state
    · have hQ:=(hQ.1 rfl).1
      (repeat' first|(refine Na ?_ fun _ _=>?_;(focus lia);cbv)|(refine CallThen.bool (C.fn (k1)) (fun _=>?_) (fun _=>?_)<;>cbv)|(refine CallThen.bool (C.fn (k2)) (fun _=>?_) (fun _=>?_)<;>cbv)|(refine CallThen.bool (C.fn (k3)) (fun _=>?_) (fun _=>?_)<;>cbv)|(refine Nl fun _ _ hq=>?_;(try simp only [lenS] at hq);cbv)|(refine Nm fun _ _=>?_;cbv)|(refine Br.t ?_ ?_;(focus first|assumption|lia);cbv)|(refine Br.f ?_ ?_;(focus first|assumption|lia);cbv)|(refine Br.mk (fun _=>?_) (fun _=>?_)<;>cbv)|(refine Need.mk ?_ ?_;rotate_left;cbv)|(refine R0 ?_;cbv))
      all_goals first
        | exact⟨rfl,trivial⟩
        | (exfalso;clear k1 k2 k3;(try simp only [emp] at *);grind)
        | trace_state
theorem rcheck10_fn (O:Opq) {x:Nd} (hx:NdS x):Fn prog 22 [.agg (x.en O)] [] [.int .i64 (chkE x)] []:=by
 have k1:=rdepth_fn O 9 (by omega) x hx.b 9 rfl
 have k2:=rmade_fn O hx
 rw[show O.o (depthI 9) x=depthI 9 x by rw[O.h]] at k1
 rw[show O.o madeD x=madeD x by rw[O.h]] at k2
 have hQ:chkE x=if deepB 8 x=true then 13 else if madeD x=true then 0 else 1:=rfl
 have hD:=deep_I x
 obtain⟨Q,eQ⟩:∃ Q,Q=chkE x:=⟨_,rfl⟩
 obtain⟨D,eD⟩:∃ Q,Q=deepB 8 x:=⟨_,rfl⟩
 obtain⟨M,eM⟩:∃ Q,Q=madeD x:=⟨_,rfl⟩
 obtain⟨I,eI⟩:∃ I,I=depthI 9 x:=⟨_,rfl⟩
 rw[← eI] at k1 hD
 rw[← eD] at hQ hD
 rw[← eM] at k2 hQ
 rw[← eQ] at hQ ⊢
 clear eQ eD eM eI hx
 obtain⟨k,t,n,l⟩:=x
 cases D<;>cases M
 all_goals
  (try rw[if_neg (by decide)] at hQ)
  (try rw[if_pos (by decide)] at hQ)
  (try rw[if_neg (by decide)] at hQ)
  subst hQ
  simp only [Bool.false_eq_true,false_iff,true_iff] at hD
  refine go (fn:=Proofs.Tryz.f22) (n:=8) (rv:=[ResultVar.tmp 2]) rfl (by decide) rfl (by decide +kernel) rfl rfl (by simp) fun F L C=>?_
  cbv
  (repeat' first|(refine Na ?_ fun _ _=>?_;(focus lia);cbv)|(refine CallThen.mk _ _ (C.fn (k1)) ?_;cbv)|(refine CallThen.mk _ _ (C.fn (k2)) ?_;cbv)|(refine Nl fun _ _ hq=>?_;(try simp only [lenS] at hq);cbv)|(refine Nm fun _ _=>?_;cbv)|(refine Br.t ?_ ?_;(focus first|assumption|lia);cbv)|(refine Br.f ?_ ?_;(focus first|assumption|lia);cbv)|(refine Br.mk (fun _=>?_) (fun _=>?_)<;>cbv)|(refine Need.mk ?_ ?_;rotate_left;cbv)|(refine R0 ?_;cbv))
  all_goals first
   | exact⟨rfl,trivial⟩
   | (exfalso;clear k1 k2;lia)
   | trace_state
theorem reval_fn (O:Opq) (d:Doc) (hd:d.length≤1099511627776) (hs:∀ f∈d,f.path.size≤9223372036854775807) {x:Nd} (hx:NdS x):Fn prog 14 [.agg (x.en O),.sl false 0 false 6 (O.o Doc.enc d)] [] [.agg (Val.enc (O.o (evV d) x)),.bool (O.o (evB d) x)] []:=by
 rw[O.h (evV d),O.h (evB d)]
 obtain⟨Q,hQ⟩:∃ Q,Q=evV d x:=⟨_,rfl⟩
 obtain⟨T,hT⟩:∃ T,T=evB d x:=⟨_,rfl⟩
 rw[← hQ,← hT]
 have k1:=rcheck10_fn O hx
 by_cases h1:chkE x=0
 ·rw[h1] at k1
  have k2:=may_fn O d hd hs;rw[show O.o may d=may d by rw[O.h]] at k2
  by_cases h2:may d=true
  ·obtain⟨e1,e2⟩:=ev_val h1 h2
   have k3:=rvalue_fn O d hd (chkE_ok.1 h1).2
   rw[O.h (valV d),O.h (valB d),← e1,← e2,← hQ,← hT] at k3
   rw[h2] at k2
   clear e1 e2 h1 h2 hx hQ hT
   obtain⟨k,t,n,l⟩:=x
   obtain⟨q1,q2,q3,q4,q5⟩:=Q
   refine go (fn:=Proofs.Tryz.f14) (n:=18) (rv:=[ResultVar.cell 4 37,ResultVar.tmp 5]) rfl (by decide) rfl (by decide +kernel) rfl rfl (by simp) fun F L C=>?_
   cbv
   (repeat' first|(refine Na ?_ fun _ _=>?_;(focus lia);cbv)|(refine CallThen.mk _ _ (C.fn (k1)) ?_;cbv)|(refine CallThen.mk _ _ (C.fn (k2)) ?_;cbv)|(refine CallThen.mk _ _ (C.fn (k3)) ?_;cbv)|(refine Nl fun _ _ hq=>?_;(try simp only [lenS] at hq);cbv)|(refine Nm fun _ _=>?_;cbv)|(refine Br.t ?_ ?_;(focus first|assumption|lia);cbv)|(refine Br.f ?_ ?_;(focus first|assumption|lia);cbv)|(refine Br.mk (fun _=>?_) (fun _=>?_)<;>cbv)|(refine Need.mk ?_ ?_;rotate_left;cbv)|(refine R0 ?_;cbv))
   all_goals first
    | exact⟨rfl,rfl,rfl,rfl,rfl,rfl,trivial⟩
    | (exfalso;clear k1 k2 k3;lia)
    | trace_state
  ·obtain⟨e1,e2⟩:=ev_no (d:=d) (x:=x) (by rw[evO,if_pos h1,if_neg h2])
   rw[← hQ] at e1;rw[← hT] at e2
   subst e1;subst e2
   rw[show may d=false by simpa using h2] at k2
   clear h1 h2 hx hQ hT
   obtain⟨k,t,n,l⟩:=x
   refine go (fn:=Proofs.Tryz.f14) (n:=18) (rv:=[ResultVar.cell 4 37,ResultVar.tmp 5]) rfl (by decide) rfl (by decide +kernel) rfl rfl (by simp) fun F L C=>?_
   cbv
   (repeat' first|(refine Na ?_ fun _ _=>?_;(focus lia);cbv)|(refine CallThen.mk _ _ (C.fn (k1)) ?_;cbv)|(refine CallThen.mk _ _ (C.fn (k2)) ?_;cbv)|(refine Nl fun _ _ hq=>?_;(try simp only [lenS] at hq);cbv)|(refine Nm fun _ _=>?_;cbv)|(refine Br.t ?_ ?_;(focus first|assumption|lia);cbv)|(refine Br.f ?_ ?_;(focus first|assumption|lia);cbv)|(refine Br.mk (fun _=>?_) (fun _=>?_)<;>cbv)|(refine Need.mk ?_ ?_;rotate_left;cbv)|(refine R0 ?_;cbv))
   all_goals first
    | exact⟨rfl,rfl,rfl,rfl,rfl,rfl,trivial⟩
    | exact⟨rfl,trivial⟩
    | exact trivial
    | (exfalso;clear k1 k2;lia)
    | trace_state
 ·obtain⟨e1,e2⟩:=ev_no (d:=d) (x:=x) (by rw[evO,if_neg h1])
  rw[← hQ] at e1;rw[← hT] at e2
  subst e1;subst e2
  obtain⟨E,hE⟩:∃ E,E=chkE x:=⟨_,rfl⟩
  rw[← hE] at k1 h1
  clear hx hQ hT hE
  obtain⟨k,t,n,l⟩:=x
  refine go (fn:=Proofs.Tryz.f14) (n:=18) (rv:=[ResultVar.cell 4 37,ResultVar.tmp 5]) rfl (by decide) rfl (by decide +kernel) rfl rfl (by simp) fun F L C=>?_
  cbv
  (repeat' first|(refine Na ?_ fun _ _=>?_;(focus lia);cbv)|(refine CallThen.mk _ _ (C.fn (k1)) ?_;cbv)|(refine Nl fun _ _ hq=>?_;(try simp only [lenS] at hq);cbv)|(refine Nm fun _ _=>?_;cbv)|(refine Br.t ?_ ?_;(focus first|assumption|lia);cbv)|(refine Br.f ?_ ?_;(focus first|assumption|lia);cbv)|(refine Br.mk (fun _=>?_) (fun _=>?_)<;>cbv)|(refine Need.mk ?_ ?_;rotate_left;cbv)|(refine R0 ?_;cbv))
  all_goals first
   | exact⟨rfl,rfl,rfl,rfl,rfl,rfl,trivial⟩
   | exact⟨rfl,trivial⟩
   | exact trivial
   | (exfalso;clear k1;lia)
   | trace_state
end Go.Sym
