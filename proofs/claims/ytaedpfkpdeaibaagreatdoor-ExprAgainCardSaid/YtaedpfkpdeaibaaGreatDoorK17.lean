/- Values of expressions: calls in all cases; an expression's value. -/
import Derived.Test.YtaedpfkpdeaibaaGreatDoorK15
import Derived.Test.YtaedpfkpdeaibaaGreatDoorK10
set_option linter.all false
set_option linter.unusedVariables false
set_option linter.unusedSimpArgs false
namespace Go.Sym
open Go Go.Proofs.Tryz
set_option maxRecDepth 100000
theorem ok_gOk {v:Val} (h:v.Ok):gOk v.re v.im=true:=by
 rcases val_cases h with ⟨n,rfl,_⟩ | ⟨x,y,rfl,hp⟩ | ⟨s,rfl,_⟩
 ·exact(by decide:gOk 0 0=true)
 ·exact hp
 ·exact(by decide:gOk 0 0=true)
theorem ok_text {v:Val} (h:v.Ok):v.text.size≤256:=by
 rcases val_cases h with ⟨n,rfl,_⟩ | ⟨x,y,rfl,hp⟩ | ⟨s,rfl,hs⟩
 ·exact(by decide:ByteArray.empty.size≤256)
 ·exact(by decide:ByteArray.empty.size≤256)
 ·exact hs
theorem name_cases {w:List UInt8} (h:nameL w=true):w=nNorm∨w=nConj∨w=nTurn∨w=nLow∨w=nHead:=by
 unfold nameL at h
 simp only [Bool.or_eq_true,beq_iff_eq] at h
 unfold nNorm nConj nTurn nLow nHead
 rcases h with (((h|h)|h)|h)|h<;>simp [h]
theorem call_all {w:List UInt8} (hw:nameL w=true) {v:Val} (hv:v.Ok):∃ r B,Fn prog 54 [.str (ofL w),.agg v.enc] [] [.agg (Val.enc r),.bool B] []∧okV (callO w v)=okB B r:=by
 have hg:=ok_gOk hv
 have ht:v.text.size≤1000000:=Nat.le_trans (ok_text hv) (by decide)
 have hk2:v.kind=3→¬ v.kind=2:=fun h=>by omega
 obtain⟨k,n,t,x,y⟩:=v
 replace hg:gOk x y=true:=hg
 replace ht:n.natAbs=n.natAbs∧(⟨k,n,t,x,y⟩:Val).text.size≤1000000:=⟨rfl,ht⟩
 rcases name_cases hw with rfl|rfl|rfl|rfl|rfl
 ·by_cases hk:k=3
  ·exact⟨_,_,call_normT hg rfl hk,okV_is (by subst hk;rfl)⟩
  ·exact⟨_,_,call_normF hg rfl hk,okV_not (by
    have:callO nNorm ⟨k,n,t,x,y⟩=none:=by
     simp only [callO,if_neg hk,show ¬ nNorm=nLow by decide,show ¬ nNorm=nHead by decide,if_false];split<;>rfl
    rw[this];rfl)⟩
 ·by_cases hk:k=3
  ·exact⟨_,_,call_conjT hg rfl hk,okV_is (by subst hk;rfl)⟩
  ·exact⟨_,_,call_conjF hg rfl hk,okV_not (by
    have:callO nConj ⟨k,n,t,x,y⟩=none:=by
     simp only [callO,if_neg hk,show ¬ nConj=nLow by decide,show ¬ nConj=nHead by decide,if_false];split<;>rfl
    rw[this];rfl)⟩
 ·by_cases hk:k=3
  ·exact⟨_,_,call_turnT hg rfl hk,okV_is (by subst hk;rfl)⟩
  ·exact⟨_,_,call_turnF hg rfl hk,okV_not (by
    have:callO nTurn ⟨k,n,t,x,y⟩=none:=by
     simp only [callO,if_neg hk,show ¬ nTurn=nLow by decide,show ¬ nTurn=nHead by decide,if_false];split<;>rfl
    rw[this];rfl)⟩
 ·by_cases hk:k=2
  ·exact⟨_,_,call_lowT rfl hk ht.2,okV_is (by subst hk;rfl)⟩
  ·exact⟨_,_,call_lowF rfl hk ht.2,okV_not (by
    have:callO nLow ⟨k,n,t,x,y⟩=none:=by
     simp only [callO,show ¬ nLow=nNorm by decide,show ¬ nLow=nConj by decide,show ¬ nLow=nTurn by decide,if_false,if_neg hk];split<;>rfl
    rw[this];rfl)⟩
 ·by_cases hk:k=2
  ·exact⟨_,_,call_headT rfl hk ht.2,okV_is (by subst hk;rfl)⟩
  ·exact⟨_,_,call_headF rfl hk ht.2,okV_not (by
    have:callO nHead ⟨k,n,t,x,y⟩=none:=by
     simp only [callO,show ¬ nHead=nNorm by decide,show ¬ nHead=nConj by decide,show ¬ nHead=nTurn by decide,if_false,if_neg hk];split<;>rfl
    rw[this];rfl)⟩
theorem made_args {k:Int} {t:List UInt8} {n:Int} {l:List Nd} (h:madeB (.mk k t n l)=true):(k=1∧l=[])∨(k=2∧l=[])∨((k=3∨k=4)∧∃ a b,l=[a,b])∨(k=5∧nameL t=true∧∃ a,l=[a]):=by
 change (if k=1 then decide (n=0) && l.isEmpty && pathL t && !plainL t
  else if k=2 then decide (0≤n∧n<1000000000000000) && l.isEmpty && t.isEmpty
  else if k=3∨k=4 then decide (n=0) && decide (l.length=2) && t.isEmpty
  else if k=5 then decide (n=0) && decide (l.length=1) && nameL t
  else false)=true at h
 by_cases e1:k=1
 ·rw[if_pos e1] at h
  simp only [Bool.and_eq_true] at h
  exact .inl ⟨e1,List.isEmpty_iff.1 h.1.1.2⟩
 rw[if_neg e1] at h
 by_cases e2:k=2
 ·rw[if_pos e2] at h
  simp only [Bool.and_eq_true] at h
  exact .inr (.inl ⟨e2,List.isEmpty_iff.1 h.1.2⟩)
 rw[if_neg e2] at h
 by_cases e3:k=3∨k=4
 ·rw[if_pos e3] at h
  simp only [Bool.and_eq_true,decide_eq_true_eq] at h
  obtain⟨a,b,hl⟩:∃ a b,l=[a,b]:=match l,h.1.2 with
   | [a,b],_=>⟨a,b,rfl⟩
  exact .inr (.inr (.inl ⟨e3,a,b,hl⟩))
 rw[if_neg e3] at h
 by_cases e5:k=5
 ·rw[if_pos e5] at h
  simp only [Bool.and_eq_true,decide_eq_true_eq] at h
  obtain⟨a,hl⟩:=List.length_eq_one_iff.1 h.1.2
  exact .inr (.inr (.inr ⟨e5,h.2,a,hl⟩))
 ·rw[if_neg e5] at h
  cases h
theorem val_no {d:Doc} {x:Nd} (h:valO d x=none):valV d x=zeroV∧valB d x=false:=by rw[valV,valB,h];exact⟨rfl,rfl⟩
theorem val_yes {d:Doc} {x:Nd} {v:Val} (h:valO d x=some v):valV d x=v∧valB d x=true:=by rw[valV,valB,h];exact⟨rfl,rfl⟩
theorem rcheck_ok {v:Val} (h:v.Ok):Fn prog 51 [.agg v.enc] [] [.int .i64 0] []:=by
 have k:=rcheck_fn Opq.id v
 rwa [Opq.id.h,Val.err_ok.2 h] at k
theorem rcheck_bad {v:Val} (h:¬ v.Ok):∃ e,e≠0∧Fn prog 51 [.agg v.enc] [] [.int .i64 e] []:=by
 have k:=rcheck_fn Opq.id v
 rw[Opq.id.h] at k
 exact⟨_,fun q=>h (Val.err_ok.1 q),k⟩
theorem value_fn (O:Opq) (d:Doc) (hd:d.length≤1099511627776) {x:Nd} (h:Made x):Fn prog 31 [.agg (x.en O),.sl false 0 false 6 (O.o Doc.enc d)] [] [.agg (Val.enc (O.o (valV d) x)),.bool (O.o (valB d) x)] []:=by
 induction h with
 | @mk x hm hk ih =>
 obtain⟨k,t,n,l⟩:=x
 obtain⟨Q,hQ⟩:∃ Q,Q=valV d (.mk k t n l):=⟨_,rfl⟩
 obtain⟨T,hT⟩:∃ T,T=valB d (.mk k t n l):=⟨_,rfl⟩
 rw[O.h (valV d),O.h (valB d),← hQ,← hT]
 have hlen:=Nds.en_len O l
 obtain⟨N,hN⟩:∃ N:Nat,N=l.length:=⟨_,rfl⟩
 have hma:=made_args hm
 have hN2:N≤2:=by
  rw[hN]
  rcases hma with ⟨_,rfl⟩ | ⟨_,rfl⟩ | ⟨_,a,b,rfl⟩ | ⟨_,_,a,rfl⟩<;>simp
 obtain⟨R,hR⟩:∃ R:Nat→List (List PV),R=fun i=>Vals.enc (valsF d l i):=⟨_,rfl⟩
 have hRl:∀ i,i≤N→valsO d (l.take i)=some (valsF d l i)→(R i).length=i:=fun i hi h=>by
  rw[hR];show(Vals.enc _).length=i
  rw[Vals.enc_len,valsO_len h,List.length_take];omega
 have hRs:∀ (i:Nat) a v,l[i]?=some a→valsO d (l.take i)=some (valsF d l i)→valO d a=some v→R (i+1)=R i++[v.enc]:=fun i a v h1 h2 h3=>by
  rw[hR];show Vals.enc _=Vals.enc _++_
  rw[(valsF_succ h1 h2 h3).2,Vals.enc,Vals.enc,List.map_append];rfl
 have hR0:R 0=[]:=by rw[hR];show Vals.enc _=_;rw[(valsF_zero d l).1];rfl
 obtain⟨z,hz⟩:∃ z:Nat,z=0:=⟨_,rfl⟩
 have hRz:R z=[]:=by rw[hz];exact hR0
 have h0:valsO d (l.take z)=some (valsF d l z):=by rw[hz];exact(valsF_zero d l).2
 refine go (fn:=Proofs.Tryz.f31) (n:=78) (rv:=[ResultVar.cell 4 37,ResultVar.tmp 5]) rfl (by decide) rfl (by decide +kernel) rfl rfl (by simp) fun F L C=>?_
 cbv
 (repeat' first|(refine Na ?_ fun _ _=>?_;(focus lia);cbv)|(refine Nl fun _ _ hq=>?_;(try simp only [lenS] at hq);cbv)|(refine Nm fun _ _=>?_;cbv)|(refine Br.t ?_ ?_;(focus first|assumption|lia);cbv)|(refine Br.f ?_ ?_;(focus first|assumption|lia);cbv)|(refine Br.mk (fun _=>?_) (fun _=>?_)<;>cbv)|(refine Need.mk ?_ ?_;rotate_left;cbv)|(refine R0 ?_;cbv))
 refine LoopThen.mk (C.loopAt (ι:=Nat) [(5,6),(8,10),(14,31)] (fun i=>[(6,.ref 50),(14,.int .i64 i)]) (fun i=>[(50,.arr 0 none 5 (R i)),(256,.box [.int .i64 k,.str (O.o ofL t),.int .i64 n,.sl false 0 false 4 (O.o Nds.enc l)]),(384,.box [.int .i64 0,.int .i64 0,.str ByteArray.empty,.int .i64 0,.int .i64 0])])
  (fun i=>i≤N∧valsO d (l.take i)=some (valsF d l i)) (fun i=>N-i) (by decide +kernel) (Start.mk z [(50,.nil 5)] [] ⟨by omega,h0⟩ ?_) ?_)
 ·clear hRs hRl ih hk hm hQ hT
  cbv
  (repeat' apply And.intro)<;>first|exact True.intro|exact WkR.refl _|rfl|exact hRz|(clear hRz h0;lia)|trace_state
 intro i g
 cbv
 have g1:i≤N:=g.1
 have g2:valsO d (l.take i)=some (valsF d l i):=g.2
 clear g
 clear hRz h0 hR0
 by_cases hi:i<N
 ·obtain⟨a,ha⟩:∃ a,l[i]?=some a:=⟨l[i]'(by omega),List.getElem?_eq_getElem (by omega)⟩
  have hc:=ih a (List.mem_of_getElem? ha)
  have hRi:=hRl i g1 g2
  cases hva:valO d a with
  | none =>
   obtain⟨e1,e2⟩:=val_no hva
   rw[O.h (valV d),O.h (valB d),e1,e2] at hc
   have hx0:valO d (.mk k t n l)=none:=by rw[valO,valsO_take_none ha hva]
   obtain⟨e1,e2⟩:=val_no hx0
   rw[← hQ] at e1;rw[← hT] at e2
   subst e1;subst e2
   clear hQ hT hRs hRl ih hk hm hx0 hva g2 hma hR
   obtain⟨ak,at',an,al⟩:=a
   (repeat' first|(refine Na ?_ fun _ _=>?_;(focus lia);cbv)|(refine Ex.nd O ha ?_ ?_;(focus lia);cbv)|(refine CallThen.mk _ _ (C.fn (hc)) ?_;cbv)|(refine Nl fun _ _ hq=>?_;(try simp only [lenS] at hq);cbv)|(refine Nm fun _ _=>?_;cbv)|(refine Br.t ?_ ?_;(focus first|assumption|lia);cbv)|(refine Br.f ?_ ?_;(focus first|assumption|lia);cbv)|(refine Br.mk (fun _=>?_) (fun _=>?_)<;>cbv)|(refine Need.mk ?_ ?_;rotate_left;cbv)|(refine R0 ?_;cbv))
   all_goals first
    | exact⟨rfl,rfl,rfl,rfl,rfl,rfl,trivial⟩
    | exact⟨rfl,trivial⟩
    | (exfalso;clear hc;lia)
    | trace_state
  | some v =>
   obtain⟨e1,e2⟩:=val_yes hva
   rw[O.h (valV d),O.h (valB d),e1,e2] at hc
   have hs:=hRs i a v ha g2 hva
   have hg:=(valsF_succ ha g2 hva).1
   clear hQ hT hRs hRl ih hk hm hva g2 hma hR
   obtain⟨ak,at',an,al⟩:=a
   obtain⟨v1,v2,v3,v4,v5⟩:=v
   (repeat' first|(refine Na ?_ fun _ _=>?_;(focus lia);cbv)|(refine Ex.nd O ha ?_ ?_;(focus lia);cbv)|(refine CallThen.mk _ _ (C.fn (hc)) ?_;cbv)|(refine Back.up [(50,.loc 2048)] [] ?_ ?_ fun _ _=>?_;rotate_left 2;cbv;refine And.intro ?_ ?_)|(refine Nl fun _ _ hq=>?_;(try simp only [lenS] at hq);cbv)|(refine Nm fun _ _=>?_;cbv)|(refine Br.t ?_ ?_;(focus first|assumption|lia);cbv)|(refine Br.f ?_ ?_;(focus first|assumption|lia);cbv)|(refine Br.mk (fun _=>?_) (fun _=>?_)<;>cbv)|(refine Need.mk ?_ ?_;rotate_left;cbv)|(refine R0 ?_;cbv))
   all_goals(repeat' apply And.intro)
   all_goals try first
    | exact True.intro
    | exact WkR.refl _
    | rfl
    | exact hg
    | (clear hc hs hg;lia)
   all_goals try
    (rw[hRi];simp only [List.length_cons,List.length_nil];clear hc hs;omega)
   all_goals
    rename_i q hq1 _ _ k' hk'
    rw[hk',hq1]
    exact WkR.of_eq hs
 ·have hiN:i=N:=by omega
  have htk:l.take i=l:=List.take_of_length_le (by omega)
  rw[htk] at g2
  obtain⟨vs,hvs⟩:∃ vs,vs=valsF d l i:=⟨_,rfl⟩
  have hRi:R i=Vals.enc vs:=by rw[hR,hvs]
  rw[← hvs] at g2
  have hx0:valO d (.mk k t n l)=okV (rawO d k t n vs):=by rw[valO,g2]
  clear hRs hRl hR ih hk hm htk hvs
  rcases hma with ⟨rfl,rfl⟩ | ⟨rfl,rfl⟩ | ⟨hk34,a,b,rfl⟩ | ⟨rfl,hw,a,rfl⟩
  ·have kc:=get_fn O d (O.o ofL t) hd
   have hr:rawO d 1 t n vs=if getB d (ofL t)=true then some (getV d (ofL t)) else none:=by unfold rawO;rw[if_pos rfl]
   obtain⟨B,hB⟩:∃ B,B=getB d (ofL t):=⟨_,rfl⟩
   obtain⟨r,hrr⟩:∃ r,r=getV d (ofL t):=⟨_,rfl⟩
   have hval:valO d (.mk 1 t n [])=okB B r:=by
    rw[hx0,hr,← hB,← hrr]
    cases B
    ·exact okV_not rfl
    ·exact okV_is rfl
   rw[O.h getV,O.h getB,show getV d (O.o ofL t)=r by rw[O.h];exact hrr.symm,show getB d (O.o ofL t)=B by rw[O.h];exact hB.symm] at kc
   clear hr hB hrr hx0 hRi
   cases B
   ·obtain⟨e1,e2⟩:=val_no (show valO d (.mk 1 t n [])=none by rw[hval,okB_false])
    rw[← hQ] at e1;rw[← hT] at e2
    subst e1;subst e2
    clear hval hQ hT
    (repeat' first|(refine Na ?_ fun _ _=>?_;(focus lia);cbv)|(refine CallThen.mk _ _ (C.fn (kc)) ?_;cbv)|(refine Nl fun _ _ hq=>?_;(try simp only [lenS] at hq);cbv)|(refine Nm fun _ _=>?_;cbv)|(refine Br.t ?_ ?_;(focus first|assumption|lia);cbv)|(refine Br.f ?_ ?_;(focus first|assumption|lia);cbv)|(refine Br.mk (fun _=>?_) (fun _=>?_)<;>cbv)|(refine Need.mk ?_ ?_;rotate_left;cbv)|(refine R0 ?_;cbv))
    all_goals first|exact⟨rfl,rfl,rfl,rfl,rfl,rfl,trivial⟩|(exfalso;clear kc;lia)|trace_state
   ·by_cases hv:r.Ok
    ·obtain⟨e1,e2⟩:=val_yes (show valO d (.mk 1 t n [])=some r by rw[hval,okB,if_pos ⟨rfl,hv⟩])
     rw[← hQ] at e1;rw[← hT] at e2
     subst e1;subst e2
     have kr:=rcheck_ok hv
     clear hval hT hv
     obtain⟨r1,r2,r3,r4,r5⟩:=Q
     (repeat' first|(refine Na ?_ fun _ _=>?_;(focus lia);cbv)|(refine CallThen.mk _ _ (C.fn (kc)) ?_;cbv)|(refine CallThen.mk _ _ (C.fn (kr)) ?_;cbv)|(refine Nl fun _ _ hq=>?_;(try simp only [lenS] at hq);cbv)|(refine Nm fun _ _=>?_;cbv)|(refine Br.t ?_ ?_;(focus first|assumption|lia);cbv)|(refine Br.f ?_ ?_;(focus first|assumption|lia);cbv)|(refine Br.mk (fun _=>?_) (fun _=>?_)<;>cbv)|(refine Need.mk ?_ ?_;rotate_left;cbv)|(refine R0 ?_;cbv))
     all_goals first|exact⟨rfl,rfl,rfl,rfl,rfl,rfl,trivial⟩|(exfalso;clear kc kr;lia)|trace_state
    ·obtain⟨e1,e2⟩:=val_no (show valO d (.mk 1 t n [])=none by rw[hval,okB_bad hv])
     rw[← hQ] at e1;rw[← hT] at e2
     subst e1;subst e2
     obtain⟨e,he,kr⟩:=rcheck_bad hv
     clear hval hQ hT hv
     obtain⟨r1,r2,r3,r4,r5⟩:=r
     (repeat' first|(refine Na ?_ fun _ _=>?_;(focus lia);cbv)|(refine CallThen.mk _ _ (C.fn (kc)) ?_;cbv)|(refine CallThen.mk _ _ (C.fn (kr)) ?_;cbv)|(refine Nl fun _ _ hq=>?_;(try simp only [lenS] at hq);cbv)|(refine Nm fun _ _=>?_;cbv)|(refine Br.t ?_ ?_;(focus first|assumption|lia);cbv)|(refine Br.f ?_ ?_;(focus first|assumption|lia);cbv)|(refine Br.mk (fun _=>?_) (fun _=>?_)<;>cbv)|(refine Need.mk ?_ ?_;rotate_left;cbv)|(refine R0 ?_;cbv))
     all_goals first|exact⟨rfl,rfl,rfl,rfl,rfl,rfl,trivial⟩|(exfalso;clear kc kr;lia)|trace_state
  ·have kc:=num_fn O n
   have hval:valO d (.mk 2 t n [])=okB true (numV n):=by
    rw[hx0,show rawO d 2 t n vs=some (numV n) by unfold rawO;rw[if_neg (by decide),if_pos rfl]]
    exact okV_is rfl
   obtain⟨r,hrr⟩:∃ r,r=numV n:=⟨_,rfl⟩
   rw[← hrr] at kc hval
   clear hx0 hRi hrr
   obtain⟨B,hB⟩:∃ B,B=true:=⟨_,rfl⟩
   rw[← hB] at hval
   cases B
   ·obtain⟨e1,e2⟩:=val_no (show valO d (.mk 2 t n [])=none by rw[hval,okB_false])
    rw[← hQ] at e1;rw[← hT] at e2
    subst e1;subst e2
    clear hval hQ hT
    (repeat' first|(refine Na ?_ fun _ _=>?_;(focus lia);cbv)|(refine CallThen.mk _ _ (C.fn (kc)) ?_;cbv)|(refine Nl fun _ _ hq=>?_;(try simp only [lenS] at hq);cbv)|(refine Nm fun _ _=>?_;cbv)|(refine Br.t ?_ ?_;(focus first|assumption|lia);cbv)|(refine Br.f ?_ ?_;(focus first|assumption|lia);cbv)|(refine Br.mk (fun _=>?_) (fun _=>?_)<;>cbv)|(refine Need.mk ?_ ?_;rotate_left;cbv)|(refine R0 ?_;cbv))
    all_goals first|exact⟨rfl,rfl,rfl,rfl,rfl,rfl,trivial⟩|(exfalso;clear kc;lia)|trace_state
   ·by_cases hv:r.Ok
    ·obtain⟨e1,e2⟩:=val_yes (show valO d (.mk 2 t n [])=some r by rw[hval,okB,if_pos ⟨rfl,hv⟩])
     rw[← hQ] at e1;rw[← hT] at e2
     subst e1;subst e2
     have kr:=rcheck_ok hv
     clear hval hT hv
     obtain⟨r1,r2,r3,r4,r5⟩:=Q
     (repeat' first|(refine Na ?_ fun _ _=>?_;(focus lia);cbv)|(refine CallThen.mk _ _ (C.fn (kc)) ?_;cbv)|(refine CallThen.mk _ _ (C.fn (kr)) ?_;cbv)|(refine Nl fun _ _ hq=>?_;(try simp only [lenS] at hq);cbv)|(refine Nm fun _ _=>?_;cbv)|(refine Br.t ?_ ?_;(focus first|assumption|lia);cbv)|(refine Br.f ?_ ?_;(focus first|assumption|lia);cbv)|(refine Br.mk (fun _=>?_) (fun _=>?_)<;>cbv)|(refine Need.mk ?_ ?_;rotate_left;cbv)|(refine R0 ?_;cbv))
     all_goals first|exact⟨rfl,rfl,rfl,rfl,rfl,rfl,trivial⟩|(exfalso;clear kc kr;lia)|trace_state
    ·obtain⟨e1,e2⟩:=val_no (show valO d (.mk 2 t n [])=none by rw[hval,okB_bad hv])
     rw[← hQ] at e1;rw[← hT] at e2
     subst e1;subst e2
     obtain⟨e,he,kr⟩:=rcheck_bad hv
     clear hval hQ hT hv
     obtain⟨r1,r2,r3,r4,r5⟩:=r
     (repeat' first|(refine Na ?_ fun _ _=>?_;(focus lia);cbv)|(refine CallThen.mk _ _ (C.fn (kc)) ?_;cbv)|(refine CallThen.mk _ _ (C.fn (kr)) ?_;cbv)|(refine Nl fun _ _ hq=>?_;(try simp only [lenS] at hq);cbv)|(refine Nm fun _ _=>?_;cbv)|(refine Br.t ?_ ?_;(focus first|assumption|lia);cbv)|(refine Br.f ?_ ?_;(focus first|assumption|lia);cbv)|(refine Br.mk (fun _=>?_) (fun _=>?_)<;>cbv)|(refine Need.mk ?_ ?_;rotate_left;cbv)|(refine R0 ?_;cbv))
     all_goals first|exact⟨rfl,rfl,rfl,rfl,rfl,rfl,trivial⟩|(exfalso;clear kc kr;lia)|trace_state
  ·obtain⟨va,vb,rfl⟩:∃ va vb,vs=[va,vb]:=match vs,valsO_len g2 with
    | [va,vb],_=>⟨va,vb,rfl⟩
   have oa:=valsO_ok g2 va (by simp)
   have ob:=valsO_ok g2 vb (by simp)
   obtain⟨r,B,kc,hok⟩:=two_all hk34 oa ob
   have hval:valO d (.mk k t n [a,b])=okB B r:=by
    rw[hx0,← hok]
    rcases hk34 with rfl|rfl<;>simp [rawO]
   have hRi:R i=[va.enc,vb.enc]:=hRi
   rw[hRi]
   clear hx0 hRi hok g2 oa ob
   obtain⟨a1,a2,a3,a4,a5⟩:=va
   obtain⟨b1,b2,b3,b4,b5⟩:=vb
   cases B
   ·obtain⟨e1,e2⟩:=val_no (show valO d (.mk k t n [a,b])=none by rw[hval,okB_false])
    rw[← hQ] at e1;rw[← hT] at e2
    subst e1;subst e2
    clear hval hQ hT
    (repeat' first|(refine Named.atG 0 rfl ?_;cbv)|(refine Named.atG 1 rfl ?_;cbv)|(refine Na ?_ fun _ _=>?_;(focus lia);cbv)|(refine Ex.mk _ ⟨by decide,rfl⟩ ?_;cbv)|(refine CallThen.mk _ _ (C.fn (kc)) ?_;cbv)|(refine Nl fun _ _ hq=>?_;(try simp only [lenS] at hq);cbv)|(refine Nm fun _ _=>?_;cbv)|(refine Br.t ?_ ?_;(focus first|assumption|lia);cbv)|(refine Br.f ?_ ?_;(focus first|assumption|lia);cbv)|(refine Br.mk (fun _=>?_) (fun _=>?_)<;>cbv)|(refine Need.mk ?_ ?_;rotate_left;cbv)|(refine R0 ?_;cbv))
    all_goals first|exact⟨rfl,rfl,rfl,rfl,rfl,rfl,trivial⟩|(exfalso;clear kc;lia)|(clear kc;simp only [List.length_cons,List.length_nil];lia)|trace_state
   ·by_cases hv:r.Ok
    ·obtain⟨e1,e2⟩:=val_yes (show valO d (.mk k t n [a,b])=some r by rw[hval,okB,if_pos ⟨rfl,hv⟩])
     rw[← hQ] at e1;rw[← hT] at e2
     subst e1;subst e2
     have kr:=rcheck_ok hv
     clear hval hT hv
     obtain⟨r1,r2,r3,r4,r5⟩:=Q
     (repeat' first|(refine Named.atG 0 rfl ?_;cbv)|(refine Named.atG 1 rfl ?_;cbv)|(refine Na ?_ fun _ _=>?_;(focus lia);cbv)|(refine Ex.mk _ ⟨by decide,rfl⟩ ?_;cbv)|(refine CallThen.mk _ _ (C.fn (kc)) ?_;cbv)|(refine CallThen.mk _ _ (C.fn (kr)) ?_;cbv)|(refine Nl fun _ _ hq=>?_;(try simp only [lenS] at hq);cbv)|(refine Nm fun _ _=>?_;cbv)|(refine Br.t ?_ ?_;(focus first|assumption|lia);cbv)|(refine Br.f ?_ ?_;(focus first|assumption|lia);cbv)|(refine Br.mk (fun _=>?_) (fun _=>?_)<;>cbv)|(refine Need.mk ?_ ?_;rotate_left;cbv)|(refine R0 ?_;cbv))
     all_goals first|exact⟨rfl,rfl,rfl,rfl,rfl,rfl,trivial⟩|(exfalso;clear kc kr;lia)|(clear kc kr;simp only [List.length_cons,List.length_nil];lia)|trace_state
    ·obtain⟨e1,e2⟩:=val_no (show valO d (.mk k t n [a,b])=none by rw[hval,okB_bad hv])
     rw[← hQ] at e1;rw[← hT] at e2
     subst e1;subst e2
     obtain⟨e,he,kr⟩:=rcheck_bad hv
     clear hval hQ hT hv
     obtain⟨r1,r2,r3,r4,r5⟩:=r
     (repeat' first|(refine Named.atG 0 rfl ?_;cbv)|(refine Named.atG 1 rfl ?_;cbv)|(refine Na ?_ fun _ _=>?_;(focus lia);cbv)|(refine Ex.mk _ ⟨by decide,rfl⟩ ?_;cbv)|(refine CallThen.mk _ _ (C.fn (kc)) ?_;cbv)|(refine CallThen.mk _ _ (C.fn (kr)) ?_;cbv)|(refine Nl fun _ _ hq=>?_;(try simp only [lenS] at hq);cbv)|(refine Nm fun _ _=>?_;cbv)|(refine Br.t ?_ ?_;(focus first|assumption|lia);cbv)|(refine Br.f ?_ ?_;(focus first|assumption|lia);cbv)|(refine Br.mk (fun _=>?_) (fun _=>?_)<;>cbv)|(refine Need.mk ?_ ?_;rotate_left;cbv)|(refine R0 ?_;cbv))
     all_goals first|exact⟨rfl,rfl,rfl,rfl,rfl,rfl,trivial⟩|(exfalso;clear kc kr;lia)|(clear kc kr;simp only [List.length_cons,List.length_nil];lia)|trace_state
  ·obtain⟨va,rfl⟩:∃ va,vs=[va]:=match vs,valsO_len g2 with
    | [va],_=>⟨va,rfl⟩
   have oa:=valsO_ok g2 va (by simp)
   obtain⟨r,B,kc,hok⟩:=call_all hw oa
   have hval:valO d (.mk 5 t n [a])=okB B r:=by
    rw[hx0,← hok]
    simp [rawO]
   have hRi:R i=[va.enc]:=hRi
   rw[hRi]
   rw[show ofL t=O.o ofL t by rw[O.h]] at kc
   clear hx0 hRi hok g2 oa hw
   obtain⟨a1,a2,a3,a4,a5⟩:=va
   cases B
   ·obtain⟨e1,e2⟩:=val_no (show valO d (.mk 5 t n [a])=none by rw[hval,okB_false])
    rw[← hQ] at e1;rw[← hT] at e2
    subst e1;subst e2
    clear hval hQ hT
    (repeat' first|(refine Named.atG 0 rfl ?_;cbv)|(refine Na ?_ fun _ _=>?_;(focus lia);cbv)|(refine Ex.mk _ ⟨by decide,rfl⟩ ?_;cbv)|(refine CallThen.mk _ _ (C.fn (kc)) ?_;cbv)|(refine Nl fun _ _ hq=>?_;(try simp only [lenS] at hq);cbv)|(refine Nm fun _ _=>?_;cbv)|(refine Br.t ?_ ?_;(focus first|assumption|lia);cbv)|(refine Br.f ?_ ?_;(focus first|assumption|lia);cbv)|(refine Br.mk (fun _=>?_) (fun _=>?_)<;>cbv)|(refine Need.mk ?_ ?_;rotate_left;cbv)|(refine R0 ?_;cbv))
    all_goals first|exact⟨rfl,rfl,rfl,rfl,rfl,rfl,trivial⟩|(exfalso;clear kc;lia)|(clear kc;simp only [List.length_cons,List.length_nil];lia)|trace_state
   ·by_cases hv:r.Ok
    ·obtain⟨e1,e2⟩:=val_yes (show valO d (.mk 5 t n [a])=some r by rw[hval,okB,if_pos ⟨rfl,hv⟩])
     rw[← hQ] at e1;rw[← hT] at e2
     subst e1;subst e2
     have kr:=rcheck_ok hv
     clear hval hT hv
     obtain⟨r1,r2,r3,r4,r5⟩:=Q
     (repeat' first|(refine Named.atG 0 rfl ?_;cbv)|(refine Na ?_ fun _ _=>?_;(focus lia);cbv)|(refine Ex.mk _ ⟨by decide,rfl⟩ ?_;cbv)|(refine CallThen.mk _ _ (C.fn (kc)) ?_;cbv)|(refine CallThen.mk _ _ (C.fn (kr)) ?_;cbv)|(refine Nl fun _ _ hq=>?_;(try simp only [lenS] at hq);cbv)|(refine Nm fun _ _=>?_;cbv)|(refine Br.t ?_ ?_;(focus first|assumption|lia);cbv)|(refine Br.f ?_ ?_;(focus first|assumption|lia);cbv)|(refine Br.mk (fun _=>?_) (fun _=>?_)<;>cbv)|(refine Need.mk ?_ ?_;rotate_left;cbv)|(refine R0 ?_;cbv))
     all_goals first|exact⟨rfl,rfl,rfl,rfl,rfl,rfl,trivial⟩|(exfalso;clear kc kr;lia)|(clear kc kr;simp only [List.length_cons,List.length_nil];lia)|trace_state
    ·obtain⟨e1,e2⟩:=val_no (show valO d (.mk 5 t n [a])=none by rw[hval,okB_bad hv])
     rw[← hQ] at e1;rw[← hT] at e2
     subst e1;subst e2
     obtain⟨e,he,kr⟩:=rcheck_bad hv
     clear hval hQ hT hv
     obtain⟨r1,r2,r3,r4,r5⟩:=r
     (repeat' first|(refine Named.atG 0 rfl ?_;cbv)|(refine Na ?_ fun _ _=>?_;(focus lia);cbv)|(refine Ex.mk _ ⟨by decide,rfl⟩ ?_;cbv)|(refine CallThen.mk _ _ (C.fn (kc)) ?_;cbv)|(refine CallThen.mk _ _ (C.fn (kr)) ?_;cbv)|(refine Nl fun _ _ hq=>?_;(try simp only [lenS] at hq);cbv)|(refine Nm fun _ _=>?_;cbv)|(refine Br.t ?_ ?_;(focus first|assumption|lia);cbv)|(refine Br.f ?_ ?_;(focus first|assumption|lia);cbv)|(refine Br.mk (fun _=>?_) (fun _=>?_)<;>cbv)|(refine Need.mk ?_ ?_;rotate_left;cbv)|(refine R0 ?_;cbv))
     all_goals first|exact⟨rfl,rfl,rfl,rfl,rfl,rfl,trivial⟩|(exfalso;clear kc kr;lia)|(clear kc kr;simp only [List.length_cons,List.length_nil];lia)|trace_state
end Go.Sym
