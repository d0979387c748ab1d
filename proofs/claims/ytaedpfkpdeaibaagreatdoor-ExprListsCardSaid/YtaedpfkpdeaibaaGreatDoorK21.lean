/- Values of expressions, the document's: an expression's value (walks). -/
import Derived.Test.YtaedpfkpdeaibaaGreatDoorK20
import Derived.Test.YtaedpfkpdeaibaaGreatDoorK17
set_option linter.all false
set_option linter.unusedVariables false
set_option linter.unusedSimpArgs false
namespace Go.Sym
open Go Go.Proofs.Tryz
set_option maxRecDepth 100000
theorem extract1 {t:ByteArray} (h:t≠ByteArray.empty):1≤t.size:=by
 rcases Nat.eq_zero_or_pos t.size with h0|h0
 ·exact absurd (ByteArray.size_eq_zero_iff.1 h0) h
 ·exact h0
theorem rcall_all {w:List UInt8} (hw:nameL w=true) {v:Val} (hv:v.Ok):∃ r B,Fn prog 88 [.str (ofL w),.agg v.enc] [] [.agg (Val.enc r),.bool B] []∧okV (callO w v)=okB B r:=by
 rcases val_cases hv with ⟨m,rfl,hm⟩ | ⟨x,y,rfl,hp⟩ | ⟨s,rfl,hs⟩
 ·exact⟨_,_,rcall_n,okV_not (by simp [callO,numV,okV])⟩
 ·rcases name_cases hw with rfl|rfl|rfl|rfl|rfl
  ·exact⟨_,_,rcall_norm hp rfl,okV_is (by simp [callO,pointV])⟩
  ·exact⟨_,_,rcall_conj hp rfl,okV_is (by simp [callO,pointV,show ¬ nConj=nNorm by decide])⟩
  ·exact⟨_,_,rcall_turn hp rfl,okV_is (by simp [callO,pointV,show ¬ nTurn=nNorm by decide,show ¬ nTurn=nConj by decide])⟩
  ·exact⟨_,_,rcall_pLow,okV_not (by simp [callO,pointV,show ¬ nLow=nNorm by decide,show ¬ nLow=nConj by decide,show ¬ nLow=nTurn by decide,okV])⟩
  ·exact⟨_,_,rcall_pHead,okV_not (by simp [callO,pointV,show ¬ nHead=nNorm by decide,show ¬ nHead=nConj by decide,show ¬ nHead=nTurn by decide,okV])⟩
 ·rcases name_cases hw with rfl|rfl|rfl|rfl|rfl
  ·exact⟨_,_,rcall_tNorm,okV_not (by simp [callO,textV,show ¬ nNorm=nLow by decide,show ¬ nNorm=nHead by decide,okV])⟩
  ·exact⟨_,_,rcall_tConj,okV_not (by simp [callO,textV,show ¬ nConj=nLow by decide,show ¬ nConj=nHead by decide,okV])⟩
  ·exact⟨_,_,rcall_tTurn,okV_not (by simp [callO,textV,show ¬ nTurn=nLow by decide,show ¬ nTurn=nHead by decide,okV])⟩
  ·exact⟨_,_,rcall_low rfl (by omega),okV_is (by simp [callO,textV])⟩
  ·by_cases he:s=ByteArray.empty
   ·refine⟨_,_,rcall_headE he,okV_is ?_⟩
    subst he
    simp [callO,textV,show ¬ nHead=nLow by decide,headS]
   ·have h1:=extract1 he
    refine⟨_,_,rcall_head1 he h1 rfl,okV_is ?_⟩
    simp [callO,textV,show ¬ nHead=nLow by decide,headS,Nat.min_eq_left h1]
theorem get_at {d:Doc} {p:ByteArray}:(getI d p<0∧getB d p=false)∨(0≤getI d p∧getB d p=true∧∃ q,d[(getI d p).toNat]?=some ⟨q,getV d p⟩):=by
 by_cases h:getB d p=true
 ·right
  have h0:0≤getI d p:=findI_ge.2 h
  obtain⟨f,hf,hp⟩:=findI_lt h0
  refine⟨h0,h,f.path,?_⟩
  have hv:getV d p=f.val:=by
   unfold getV
   rw[find_at (k:=(getI d p).toNat) (by show findI _ d=_;have:getI d p=findI (hasP p) d:=rfl;omega)]
   rw[show d[(getI d p).toNat]?=some f from hf];rfl
  rw[hv];exact hf
 ·left
  refine⟨?_,by simpa using h⟩
  rcases Int.lt_or_le (getI d p) 0 with h1|h1
  ·exact h1
  ·exact absurd (findI_ge.1 h1) h
set_option maxHeartbeats 4000000 in
theorem raw_fn (O:Opq) (d:Doc) (hd:d.length≤1099511627776) {x:Nd} (hm:madeB x=true) (ih:∀ a∈x.args,Fn prog 33 [.agg (a.en O),.sl false 0 false 6 (O.o Doc.enc d)] [] [.agg (Val.enc (O.o (valV d) a)),.bool (O.o (valB d) a)] []) :
  ∃ r B,Fn prog 56 [.agg (x.en O),.sl false 0 false 6 (O.o Doc.enc d)] [] [.agg (Val.enc r),.bool B] []∧valO d x=okB B r:=by
 obtain⟨k,t,n,l⟩:=x
 have ih:∀ a∈l,Fn prog 33 [.agg (a.en O),.sl false 0 false 6 (O.o Doc.enc d)] [] [.agg (Val.enc (O.o (valV d) a)),.bool (O.o (valB d) a)] []:=ih
 have hma:=made_args hm
 -- what is right of its answer
 have fin:∃ r B,valO d (.mk k t n l)=okB B r∧(valsO d l=none→r=zeroV∧B=false)∧∀ vs,valsO d l=some vs →
   (k=1→(B=false∧r=zeroV∧getI d (ofL t)<0)∨(B=true∧0≤getI d (ofL t)∧∃ q,d[(getI d (ofL t)).toNat]?=some ⟨q,r⟩))∧(k=2→B=true∧r=numV n) ∧
   (k=4→∀ a b,vs=[a,b]→Fn prog 85 [.agg a.enc,.agg b.enc] [] [.agg (Val.enc r),.bool B] []) ∧
   (k=5→∀ a,vs=[a]→Fn prog 88 [.str (ofL t),.agg a.enc] [] [.agg (Val.enc r),.bool B] []) ∧
   (k=3→∀ a b,vs=[a,b]→(B=false∧r=zeroV∧a.kind≠b.kind)∨(B=true∧∃ x y,a=numV x∧b=numV y∧r=numV (x+y)∧-9007199254740992≤x∧x≤9007199254740992∧-9007199254740992≤y∧y≤9007199254740992) ∨
    (B=true∧∃ s s',a=textV s∧b=textV s'∧r=textV (s++s')∧s.size≤256∧s'.size≤256)∨(B=true∧∃ x y x' y',a=pointV x y∧b=pointV x' y'∧r=pointV (x+x') (y+y')∧gOk x y=true∧gOk x' y'=true)):=by
  cases hvs:valsO d l with
  | none=>exact⟨zeroV,false,by rw[valO,hvs,okB_false],fun _=>⟨rfl,rfl⟩,fun vs h=>by cases h⟩
  | some vs =>
   have hx0:valO d (.mk k t n l)=okV (rawO d k t n vs):=by rw[valO,hvs]
   have hok:=valsO_ok hvs
   have hlen:=valsO_len hvs
   rw[hx0]
   rcases hma with ⟨rfl,rfl⟩ | ⟨rfl,rfl⟩ | ⟨hk34,a,b,rfl⟩ | ⟨rfl,hw,a,rfl⟩
   ·have hr:rawO d 1 t n vs=if getB d (ofL t)=true then some (getV d (ofL t)) else none:=by unfold rawO;rw[if_pos rfl]
    rw[hr]
    rcases @get_at d (ofL t) with ⟨h1,h2⟩ | ⟨h1,h2,q,h3⟩
    ·exact⟨zeroV,false,by rw[h2];exact okV_not rfl,fun h=>(by cases h),fun vs' e=>⟨fun _=>.inl ⟨rfl,rfl,h1⟩,fun h=>(by cases h),fun h=>(by cases h),fun h=>(by cases h),fun h=>(by cases h)⟩⟩
    ·exact⟨_,true,by rw[h2];exact okV_is rfl,fun h=>(by cases h),fun vs' e=>⟨fun _=>.inr ⟨rfl,h1,q,h3⟩,fun h=>(by cases h),fun h=>(by cases h),fun h=>(by cases h),fun h=>(by cases h)⟩⟩
   ·exact⟨numV n,true,okV_is (by unfold rawO;rw[if_neg (by decide),if_pos rfl]),fun h=>(by cases h),fun vs' e=>⟨fun h=>(by cases h),fun _=>⟨rfl,rfl⟩,fun h=>(by cases h),fun h=>(by cases h),fun h=>(by cases h)⟩⟩
   ·obtain⟨va,vb,rfl⟩:∃ va vb,vs=[va,vb]:=match vs,hlen with
     | [va,vb],_=>⟨va,vb,rfl⟩
    have oa:=hok va (by simp)
    have ob:=hok vb (by simp)
    rcases hk34 with rfl|rfl
    ·have hr:rawO d 3 t n [va,vb]=twoO 3 va vb:=by simp [rawO]
     rw[hr]
     suffices h:∃ r B,okV (twoO 3 va vb)=okB B r∧((B=false∧r=zeroV∧va.kind≠vb.kind)∨(B=true∧∃ x y,va=numV x∧vb=numV y∧r=numV (x+y)∧-9007199254740992≤x∧x≤9007199254740992∧-9007199254740992≤y∧y≤9007199254740992) ∨
       (B=true∧∃ s s',va=textV s∧vb=textV s'∧r=textV (s++s')∧s.size≤256∧s'.size≤256)∨(B=true∧∃ x y x' y',va=pointV x y∧vb=pointV x' y'∧r=pointV (x+x') (y+y')∧gOk x y=true∧gOk x' y'=true)) by
      obtain⟨r,B,h1,h2⟩:=h
      exact⟨r,B,h1,fun h=>(by cases h),fun vs' e=>⟨fun h=>(by cases h),fun h=>(by cases h),fun h=>(by cases h),fun h=>(by cases h),fun _ a b e2=>by rw[← Option.some.inj e] at e2;cases e2;exact h2⟩⟩
     rcases val_cases oa with ⟨m,rfl,hm⟩ | ⟨x,y,rfl,hp⟩ | ⟨s,rfl,hs⟩<;>rcases val_cases ob with ⟨n,rfl,hn⟩ | ⟨u,v,rfl,hq⟩ | ⟨s',rfl,hs'⟩
     ·exact⟨_,true,okV_is (by simp [twoO,numV]),.inr (.inl ⟨rfl,m,n,rfl,rfl,rfl,hm.1,hm.2,hn.1,hn.2⟩)⟩
     ·exact⟨zeroV,false,okV_not (by simp [twoO,numV,pointV,okV]),.inl ⟨rfl,rfl,by simp [numV,pointV]⟩⟩
     ·exact⟨zeroV,false,okV_not (by simp [twoO,numV,textV,okV]),.inl ⟨rfl,rfl,by simp [numV,textV]⟩⟩
     ·exact⟨zeroV,false,okV_not (by simp [twoO,numV,pointV,okV]),.inl ⟨rfl,rfl,by simp [numV,pointV]⟩⟩
     ·exact⟨_,true,okV_is (by simp [twoO,pointV]),.inr (.inr (.inr ⟨rfl,x,y,u,v,rfl,rfl,rfl,hp,hq⟩))⟩
     ·exact⟨zeroV,false,okV_not (by simp [twoO,pointV,textV,okV]),.inl ⟨rfl,rfl,by simp [pointV,textV]⟩⟩
     ·exact⟨zeroV,false,okV_not (by simp [twoO,numV,textV,okV]),.inl ⟨rfl,rfl,by simp [numV,textV]⟩⟩
     ·exact⟨zeroV,false,okV_not (by simp [twoO,pointV,textV,okV]),.inl ⟨rfl,rfl,by simp [pointV,textV]⟩⟩
     ·exact⟨_,true,okV_is (by simp [twoO,textV]),.inr (.inr (.inl ⟨rfl,s,s',rfl,rfl,rfl,hs,hs'⟩))⟩
    ·have hr:rawO d 4 t n [va,vb]=twoO 4 va vb:=by simp [rawO]
     rw[hr]
     obtain⟨r,B,kc,hv⟩:=rmul_all oa ob
     exact⟨r,B,hv,fun h=>(by cases h),fun vs' e=>⟨fun h=>(by cases h),fun h=>(by cases h),fun _ a b e2=>by rw[← Option.some.inj e] at e2;cases e2;exact kc,fun h=>(by cases h),fun h=>(by cases h)⟩⟩
   ·obtain⟨va,rfl⟩:∃ va,vs=[va]:=match vs,hlen with
     | [va],_=>⟨va,rfl⟩
    have oa:=hok va (by simp)
    have hr:rawO d 5 t n [va]=callO t va:=by simp [rawO]
    rw[hr]
    obtain⟨r,B,kc,hv⟩:=rcall_all hw oa
    exact⟨r,B,hv,fun h=>(by cases h),fun vs' e=>⟨fun h=>(by cases h),fun h=>(by cases h),fun h=>(by cases h),fun _ a e2=>by rw[← Option.some.inj e] at e2;cases e2;exact kc,fun h=>(by cases h)⟩⟩
 obtain⟨r,B,hval,hnone,hsome⟩:=fin
 refine⟨r,B,?_,hval⟩
 clear hval
 have hlen:=Nds.en_len O l
 obtain⟨N,hN⟩:∃ N:Nat,N=l.length:=⟨_,rfl⟩
 have hN2:N≤2:=by
  rw[hN]
  rcases hma with ⟨_,rfl⟩ | ⟨_,rfl⟩ | ⟨_,a,b,rfl⟩ | ⟨_,_,a,rfl⟩<;>simp
 have hk5:k=1∨k=2∨(k=3∧l.length=2)∨(k=4∧l.length=2)∨(k=5∧l.length=1):=by
  rcases hma with ⟨h,_⟩ | ⟨h,_⟩ | ⟨h|h,a,b,rfl⟩ | ⟨h,_,a,rfl⟩<;>simp [h]
 obtain⟨R,hR⟩:∃ R:Nat→List (List PV),R=fun i=>Vals.enc (valsF d l i):=⟨_,rfl⟩
 have hRl:∀ i,i≤N→valsO d (l.take i)=some (valsF d l i)→(R i).length=i:=fun i hi h=>by
  rw[hR];show(Vals.enc _).length=i
  rw[Vals.enc_len,valsO_len h,List.length_take];omega
 have hRs:∀ (i:Nat) a v,l[i]?=some a→valsO d (l.take i)=some (valsF d l i)→valO d a=some v→R (i+1)=R i++[v.enc]:=fun i a v h1 h2 h3=>by
  rw[hR];show Vals.enc _=Vals.enc _++_
  rw[(valsF_succ h1 h2 h3).2,Vals.enc,Vals.enc,List.map_append];rfl
 have hR0:R 0=[]:=by rw[hR];show Vals.enc _=_;rw[(valsF_zero d l).1];rfl
 obtain⟨z,hz⟩:∃ z:Nat,z=0:=⟨_,rfl⟩
 have hRz:R z=[]:=by rw[hz];exact hR0
 have h0:valsO d (l.take z)=some (valsF d l z):=by rw[hz];exact(valsF_zero d l).2
 clear hm
 refine go (fn:=Proofs.Tryz.f56) (n:=124) (rv:=[ResultVar.cell 4 37,ResultVar.tmp 5]) rfl (by decide) rfl (by decide +kernel) rfl rfl (by simp) fun F L C=>?_
 cbv
 (repeat' first|(refine Na ?_ fun _ _=>?_;(focus lia);cbv)|(refine Nl fun _ _ hq=>?_;(try simp only [lenS] at hq);cbv)|(refine Nm fun _ _=>?_;cbv)|(refine Br.t ?_ ?_;(focus first|assumption|lia);cbv)|(refine Br.f ?_ ?_;(focus first|assumption|lia);cbv)|(refine Br.mk (fun _=>?_) (fun _=>?_)<;>cbv)|(refine Need.mk ?_ ?_;rotate_left;cbv)|(refine R0 ?_;cbv))
 refine LoopThen.mk (C.loopAt (ι:=Nat) [(5,9),(14,37)] (fun i=>[(6,.ref 50),(13,.top),(7,.int .i64 i)]) (fun i=>[(50,.arr 0 none 5 (R i)),(256,.box [.int .i64 k,.str (O.o ofL t),.int .i64 n,.sl false 0 false 4 (O.o Nds.enc l)]),(384,.box [.int .i64 0,.int .i64 0,.str ByteArray.empty,.int .i64 0,.int .i64 0])])
  (fun i=>i≤N∧valsO d (l.take i)=some (valsF d l i)) (fun i=>N-i) (by decide +kernel) (Start.mk z [(50,.loc 960)] [] ⟨by omega,h0⟩ ?_) ?_)
 ·clear hRs hRl ih hsome hnone
  cbv
  (repeat' apply And.intro)<;>first|exact True.intro|exact WkR.refl _|rfl|(rw[hRz];exact WkR.refl _)|(clear hRz h0;lia)|trace_state
 intro i g
 cbv
 have g1:i≤N:=g.1
 have g2:valsO d (l.take i)=some (valsF d l i):=g.2
 clear g
 clear hRz h0 hR0
 by_cases hi:i<N
 ·obtain⟨a,ha⟩:∃ a,l[i]?=some a:=⟨l[i]'(by omega),List.getElem?_eq_getElem (by omega)⟩
  have hc:=ih a (List.mem_of_getElem? ha)
  have hRi:=hRl i g1 g2
  cases hva:valO d a with
  | none =>
   obtain⟨e1,e2⟩:=val_no hva
   rw[O.h (valV d),O.h (valB d),e1,e2] at hc
   obtain⟨rfl,rfl⟩:=hnone (valsO_take_none ha hva)
   clear hsome hRs hRl ih hva g2 hma hR hnone
   obtain⟨ak,at',an,al⟩:=a
   (repeat' first|(refine Na ?_ fun _ _=>?_;(focus lia);cbv)|(refine Ex.nd O ha ?_ ?_;(focus lia);cbv)|(refine CallThen.mk _ _ (C.fn (hc)) ?_;cbv)|(refine Nl fun _ _ hq=>?_;(try simp only [lenS] at hq);cbv)|(refine Nm fun _ _=>?_;cbv)|(refine Br.t ?_ ?_;(focus first|assumption|lia);cbv)|(refine Br.f ?_ ?_;(focus first|assumption|lia);cbv)|(refine Br.mk (fun _=>?_) (fun _=>?_)<;>cbv)|(refine Need.mk ?_ ?_;rotate_left;cbv)|(refine R0 ?_;cbv))
   all_goals first
    | exact⟨rfl,rfl,rfl,rfl,rfl,rfl,trivial⟩
    | exact⟨rfl,rfl,trivial⟩
    | exact⟨rfl,trivial⟩
    | exact trivial
    | (exfalso;clear hc;lia)
    | (clear hc;simp only [List.length_cons,List.length_nil];lia)
    | trace_state
  | some v =>
   obtain⟨e1,e2⟩:=val_yes hva
   rw[O.h (valV d),O.h (valB d),e1,e2] at hc
   have hs:=hRs i a v ha g2 hva
   have hg:=(valsF_succ ha g2 hva).1
   clear hRs hRl ih hva g2 hma hR hsome hnone
   obtain⟨ak,at',an,al⟩:=a
   obtain⟨v1,v2,v3,v4,v5⟩:=v
   (repeat' first|(refine Na ?_ fun _ _=>?_;(focus lia);cbv)|(refine Ex.nd O ha ?_ ?_;(focus lia);cbv)|(refine CallThen.mk _ _ (C.fn (hc)) ?_;cbv)|(refine Back.up [(50,.loc 2496)] [] ?_ ?_ fun _ _=>?_;rotate_left 2;cbv;refine And.intro ?_ ?_)|(refine Nl fun _ _ hq=>?_;(try simp only [lenS] at hq);cbv)|(refine Nm fun _ _=>?_;cbv)|(refine Br.t ?_ ?_;(focus first|assumption|lia);cbv)|(refine Br.f ?_ ?_;(focus first|assumption|lia);cbv)|(refine Br.mk (fun _=>?_) (fun _=>?_)<;>cbv)|(refine Need.mk ?_ ?_;rotate_left;cbv)|(refine R0 ?_;cbv))
   all_goals(repeat' apply And.intro)
   all_goals try first
    | exact True.intro
    | exact WkR.refl _
    | rfl
    | exact hg
    | (clear hc hs hg;lia)
   all_goals try
    (rw[hRi];simp only [List.length_cons,List.length_nil];clear hc hs;omega)
   all_goals
    rename_i q hq1 _ _ k' hk'
    rw[hk',hq1]
    exact WkR.of_eq hs
 ·have hiN:i=N:=by omega
  have htk:l.take i=l:=List.take_of_length_le (by omega)
  rw[htk] at g2
  obtain⟨vs,hvs⟩:∃ vs,vs=valsF d l i:=⟨_,rfl⟩
  have hRi:R i=Vals.enc vs:=by rw[hR,hvs]
  rw[← hvs] at g2
  obtain⟨c1,c2,c4,c5,c3⟩:=hsome vs g2
  have hlv:=valsO_len g2
  clear hRs hRl hR ih htk hvs hsome hnone g2 hma
  rcases hk5 with rfl|rfl | ⟨rfl,hl⟩ | ⟨rfl,hl⟩ | ⟨rfl,hl⟩
  ·have kc:=rget_fn O d (O.o ofL t) hd
   obtain⟨I,hI⟩:∃ I,I=getI d (ofL t):=⟨_,rfl⟩
   rw[show O.o getI d (O.o ofL t)=I by rw[O.h,O.h];exact hI.symm] at kc
   rw[← hI] at c1
   clear c2 c3 c4 c5 hRi hI
   rcases c1 rfl with ⟨rfl,rfl,h1⟩ | ⟨rfl,h1,q,h2⟩
   ·clear c1
    (repeat' first|(refine Na ?_ fun _ _=>?_;(focus lia);cbv)|(refine CallThen.mk _ _ (C.fn (kc)) ?_;cbv)|(refine Nl fun _ _ hq=>?_;(try simp only [lenS] at hq);cbv)|(refine Nm fun _ _=>?_;cbv)|(refine Br.t ?_ ?_;(focus first|assumption|lia);cbv)|(refine Br.f ?_ ?_;(focus first|assumption|lia);cbv)|(refine Br.mk (fun _=>?_) (fun _=>?_)<;>cbv)|(refine Need.mk ?_ ?_;rotate_left;cbv)|(refine R0 ?_;cbv))
    all_goals first
     | exact⟨rfl,rfl,rfl,rfl,rfl,rfl,trivial⟩
     | exact⟨rfl,rfl,trivial⟩
     | exact⟨rfl,trivial⟩
     | exact trivial
     | (exfalso;clear kc;lia)
     | (clear kc;simp only [List.length_cons,List.length_nil];lia)
     | trace_state
   ·have hrow:(O.o Doc.enc d)[I.toNat]?=some (Field.enc ⟨q,r⟩):=by rw[O.h,Doc.enc,List.getElem?_map,h2];rfl
    clear c1 h2
    obtain⟨r1,r2,r3,r4,r5⟩:=r
    (repeat' first|(refine Na ?_ fun _ _=>?_;(focus lia);cbv)|(refine CallThen.mk _ _ (C.fn (kc)) ?_;cbv)|(refine Ex.mk _ ⟨h1,hrow⟩ ?_;cbv)|(refine Nl fun _ _ hq=>?_;(try simp only [lenS] at hq);cbv)|(refine Nm fun _ _=>?_;cbv)|(refine Br.t ?_ ?_;(focus first|assumption|lia);cbv)|(refine Br.f ?_ ?_;(focus first|assumption|lia);cbv)|(refine Br.mk (fun _=>?_) (fun _=>?_)<;>cbv)|(refine Need.mk ?_ ?_;rotate_left;cbv)|(refine R0 ?_;cbv))
    all_goals first
     | exact⟨rfl,rfl,rfl,rfl,rfl,rfl,trivial⟩
     | exact⟨rfl,rfl,trivial⟩
     | exact⟨rfl,trivial⟩
     | exact trivial
     | (exfalso;clear kc hrow;lia)
     | (clear kc hrow;simp only [List.length_cons,List.length_nil];lia)
     | trace_state
  ·obtain⟨rfl,rfl⟩:=c2 rfl
   have kc:=rnum_fn n
   clear c1 c3 c4 c5 hRi
   (repeat' first|(refine Na ?_ fun _ _=>?_;(focus lia);cbv)|(refine CallThen.mk _ _ (C.fn (kc)) ?_;cbv)|(refine Nl fun _ _ hq=>?_;(try simp only [lenS] at hq);cbv)|(refine Nm fun _ _=>?_;cbv)|(refine Br.t ?_ ?_;(focus first|assumption|lia);cbv)|(refine Br.f ?_ ?_;(focus first|assumption|lia);cbv)|(refine Br.mk (fun _=>?_) (fun _=>?_)<;>cbv)|(refine Need.mk ?_ ?_;rotate_left;cbv)|(refine R0 ?_;cbv))
   all_goals first
    | exact⟨rfl,rfl,rfl,rfl,rfl,rfl,trivial⟩
    | exact⟨rfl,rfl,trivial⟩
    | exact⟨rfl,trivial⟩
    | exact trivial
    | (exfalso;clear kc;lia)
    | (clear kc;simp only [List.length_cons,List.length_nil];lia)
    | trace_state
  ·obtain⟨va,vb,rfl⟩:∃ va vb,vs=[va,vb]:=match vs,(show vs.length=2 by omega) with
    | [va,vb],_=>⟨va,vb,rfl⟩
   have hRi:R i=[va.enc,vb.enc]:=hRi
   rw[hRi]
   have c3:=c3 rfl va vb rfl
   clear c1 c2 c4 c5 hRi
   rcases c3 with ⟨rfl,rfl,hne⟩ | ⟨rfl,x,y,rfl,rfl,rfl,b1,b2,b3,b4⟩ | ⟨rfl,s,s',rfl,rfl,rfl,b1,b2⟩ | ⟨rfl,x,y,x',y',rfl,rfl,rfl,b1,b2⟩
   ·obtain⟨a1,a2,a3,a4,a5⟩:=va
    obtain⟨b1,b2,b3,b4,b5⟩:=vb
    have hne:¬ a1=b1:=hne
    (repeat' first|(refine Named.atG 0 rfl ?_;cbv)|(refine Named.atG 1 rfl ?_;cbv)|(refine Na ?_ fun _ _=>?_;(focus lia);cbv)|(refine Ex.mk _ ⟨by decide,rfl⟩ ?_;cbv)|(refine Nl fun _ _ hq=>?_;(try simp only [lenS] at hq);cbv)|(refine Nm fun _ _=>?_;cbv)|(refine Br.t ?_ ?_;(focus first|assumption|lia);cbv)|(refine Br.f ?_ ?_;(focus first|assumption|lia);cbv)|(refine Br.mk (fun _=>?_) (fun _=>?_)<;>cbv)|(refine Need.mk ?_ ?_;rotate_left;cbv)|(refine R0 ?_;cbv))
    all_goals first
     | exact⟨rfl,rfl,rfl,rfl,rfl,rfl,trivial⟩
     | exact⟨rfl,rfl,trivial⟩
     | exact⟨rfl,trivial⟩
     | exact trivial
     | (exfalso;skip;lia)
     | (skip;simp only [List.length_cons,List.length_nil];lia)
     | trace_state
   ·obtain⟨q,hq⟩:∃ q,q=x+y:=⟨_,rfl⟩
    rw[← hq]
    have nq:q=IntKind.i64.wrap (x+y):=by rw[wrap64 (by omega)];exact hq
    have kc:=rnum_fn q
    clear hq
    (repeat' first|(refine Named.atG 0 rfl ?_;cbv)|(refine Named.atG 1 rfl ?_;cbv)|(refine Named.atG q nq ?_;cbv)|(refine Na ?_ fun _ _=>?_;(focus lia);cbv)|(refine Ex.mk _ ⟨by decide,rfl⟩ ?_;cbv)|(refine CallThen.mk _ _ (C.fn (kc)) ?_;cbv)|(refine Nl fun _ _ hq=>?_;(try simp only [lenS] at hq);cbv)|(refine Nm fun _ _=>?_;cbv)|(refine Br.t ?_ ?_;(focus first|assumption|lia);cbv)|(refine Br.f ?_ ?_;(focus first|assumption|lia);cbv)|(refine Br.mk (fun _=>?_) (fun _=>?_)<;>cbv)|(refine Need.mk ?_ ?_;rotate_left;cbv)|(refine R0 ?_;cbv))
    all_goals first
     | exact⟨rfl,rfl,rfl,rfl,rfl,rfl,trivial⟩
     | exact⟨rfl,rfl,trivial⟩
     | exact⟨rfl,trivial⟩
     | exact trivial
     | (exfalso;clear nq kc;lia)
     | (clear nq kc;simp only [List.length_cons,List.length_nil];lia)
     | trace_state
   ·obtain⟨q,hq⟩:∃ q,q=s++s':=⟨_,rfl⟩
    rw[← hq]
    have kc:=rtext_fn q
    (repeat' first|(refine Named.atG 0 rfl ?_;cbv)|(refine Named.atG 1 rfl ?_;cbv)|(refine Named.atG q hq ?_;cbv)|(refine Na ?_ fun _ _=>?_;(focus lia);cbv)|(refine Ex.mk _ ⟨by decide,rfl⟩ ?_;cbv)|(refine CallThen.mk _ _ (C.fn (kc)) ?_;cbv)|(refine Nl fun _ _ hq=>?_;(try simp only [lenS] at hq);cbv)|(refine Nm fun _ _=>?_;cbv)|(refine Br.t ?_ ?_;(focus first|assumption|lia);cbv)|(refine Br.f ?_ ?_;(focus first|assumption|lia);cbv)|(refine Br.mk (fun _=>?_) (fun _=>?_)<;>cbv)|(refine Need.mk ?_ ?_;rotate_left;cbv)|(refine R0 ?_;cbv))
    all_goals try(clear hq kc;omega)
    all_goals first
     | exact⟨rfl,rfl,rfl,rfl,rfl,rfl,trivial⟩
     | exact⟨rfl,rfl,trivial⟩
     | exact⟨rfl,trivial⟩
     | exact trivial
     | (exfalso;clear hq kc;lia)
     | (clear hq kc;simp only [List.length_cons,List.length_nil];lia)
     | trace_state
   ·obtain⟨p1,h1⟩:∃ q,q=x+x':=⟨_,rfl⟩
    obtain⟨p2,h2⟩:∃ q,q=y+y':=⟨_,rfl⟩
    have o1:=gOk_iff.1 b1
    have o2:=gOk_iff.1 b2
    rw[← h1,← h2]
    have n1:p1=IntKind.i64.wrap (x+x'):=by rw[wrap64 (by omega)];exact h1
    have n2:p2=IntKind.i64.wrap (y+y'):=by rw[wrap64 (by omega)];exact h2
    have kc:=rpoint_fn p1 p2
    clear h1 h2 o1 o2 b1 b2
    (repeat' first|(refine Named.atG 0 rfl ?_;cbv)|(refine Named.atG 1 rfl ?_;cbv)|(refine Named.atG p1 n1 ?_;cbv)|(refine Named.atG p2 n2 ?_;cbv)|(refine Na ?_ fun _ _=>?_;(focus lia);cbv)|(refine Ex.mk _ ⟨by decide,rfl⟩ ?_;cbv)|(refine CallThen.mk _ _ (C.fn (kc)) ?_;cbv)|(refine Nl fun _ _ hq=>?_;(try simp only [lenS] at hq);cbv)|(refine Nm fun _ _=>?_;cbv)|(refine Br.t ?_ ?_;(focus first|assumption|lia);cbv)|(refine Br.f ?_ ?_;(focus first|assumption|lia);cbv)|(refine Br.mk (fun _=>?_) (fun _=>?_)<;>cbv)|(refine Need.mk ?_ ?_;rotate_left;cbv)|(refine R0 ?_;cbv))
    all_goals first
     | exact⟨rfl,rfl,rfl,rfl,rfl,rfl,trivial⟩
     | exact⟨rfl,rfl,trivial⟩
     | exact⟨rfl,trivial⟩
     | exact trivial
     | (exfalso;clear n1 n2 kc;lia)
     | (clear n1 n2 kc;simp only [List.length_cons,List.length_nil];lia)
     | trace_state
  ·obtain⟨va,vb,rfl⟩:∃ va vb,vs=[va,vb]:=match vs,(show vs.length=2 by omega) with
    | [va,vb],_=>⟨va,vb,rfl⟩
   have hRi:R i=[va.enc,vb.enc]:=hRi
   rw[hRi]
   have kc:=c4 rfl va vb rfl
   clear c1 c2 c3 c4 c5 hRi
   obtain⟨a1,a2,a3,a4,a5⟩:=va
   obtain⟨b1,b2,b3,b4,b5⟩:=vb
   obtain⟨r1,r2,r3,r4,r5⟩:=r
   (repeat' first|(refine Named.atG 0 rfl ?_;cbv)|(refine Named.atG 1 rfl ?_;cbv)|(refine Na ?_ fun _ _=>?_;(focus lia);cbv)|(refine Ex.mk _ ⟨by decide,rfl⟩ ?_;cbv)|(refine CallThen.mk _ _ (C.fn (kc)) ?_;cbv)|(refine Nl fun _ _ hq=>?_;(try simp only [lenS] at hq);cbv)|(refine Nm fun _ _=>?_;cbv)|(refine Br.t ?_ ?_;(focus first|assumption|lia);cbv)|(refine Br.f ?_ ?_;(focus first|assumption|lia);cbv)|(refine Br.mk (fun _=>?_) (fun _=>?_)<;>cbv)|(refine Need.mk ?_ ?_;rotate_left;cbv)|(refine R0 ?_;cbv))
   all_goals first
    | exact⟨rfl,rfl,rfl,rfl,rfl,rfl,trivial⟩
    | exact⟨rfl,rfl,trivial⟩
    | exact⟨rfl,trivial⟩
    | exact trivial
    | (exfalso;clear kc;lia)
    | (clear kc;simp only [List.length_cons,List.length_nil];lia)
    | trace_state
  ·obtain⟨va,rfl⟩:∃ va,vs=[va]:=match vs,(show vs.length=1 by omega) with
    | [va],_=>⟨va,rfl⟩
   have hRi:R i=[va.enc]:=hRi
   rw[hRi]
   have kc:=c5 rfl va rfl
   rw[show ofL t=O.o ofL t by rw[O.h]] at kc
   clear c1 c2 c3 c4 c5 hRi
   obtain⟨a1,a2,a3,a4,a5⟩:=va
   obtain⟨r1,r2,r3,r4,r5⟩:=r
   (repeat' first|(refine Named.atG 0 rfl ?_;cbv)|(refine Na ?_ fun _ _=>?_;(focus lia);cbv)|(refine Ex.mk _ ⟨by decide,rfl⟩ ?_;cbv)|(refine CallThen.mk _ _ (C.fn (kc)) ?_;cbv)|(refine Nl fun _ _ hq=>?_;(try simp only [lenS] at hq);cbv)|(refine Nm fun _ _=>?_;cbv)|(refine Br.t ?_ ?_;(focus first|assumption|lia);cbv)|(refine Br.f ?_ ?_;(focus first|assumption|lia);cbv)|(refine Br.mk (fun _=>?_) (fun _=>?_)<;>cbv)|(refine Need.mk ?_ ?_;rotate_left;cbv)|(refine R0 ?_;cbv))
   all_goals first
    | exact⟨rfl,rfl,rfl,rfl,rfl,rfl,trivial⟩
    | exact⟨rfl,rfl,trivial⟩
    | exact⟨rfl,trivial⟩
    | exact trivial
    | (exfalso;clear kc;lia)
    | (clear kc;simp only [List.length_cons,List.length_nil];lia)
    | trace_state
theorem rcheck2_ok {v:Val} (h:v.Ok):Fn prog 15 [.agg v.enc] [] [.int .i64 0] []:=by
 have k:=rcheck2_fn Opq.id v
 rwa [Opq.id.h,Val.err_ok.2 h] at k
theorem rcheck2_bad {v:Val} (h:¬ v.Ok):∃ e,e≠0∧Fn prog 15 [.agg v.enc] [] [.int .i64 e] []:=by
 have k:=rcheck2_fn Opq.id v
 rw[Opq.id.h] at k
 exact⟨_,fun q=>h (Val.err_ok.1 q),k⟩
theorem rvalue_fn (O:Opq) (d:Doc) (hd:d.length≤1099511627776) {x:Nd} (h:Made x):Fn prog 33 [.agg (x.en O),.sl false 0 false 6 (O.o Doc.enc d)] [] [.agg (Val.enc (O.o (valV d) x)),.bool (O.o (valB d) x)] []:=by
 induction h with
 | @mk x hm hk ih =>
 obtain⟨r,B,kc,hval⟩:=raw_fn O d hd hm ih
 obtain⟨Q,hQ⟩:∃ Q,Q=valV d x:=⟨_,rfl⟩
 obtain⟨T,hT⟩:∃ T,T=valB d x:=⟨_,rfl⟩
 rw[O.h (valV d),O.h (valB d),← hQ,← hT]
 clear ih hk hm
 cases B
 ·obtain⟨e1,e2⟩:=val_no (show valO d x=none by rw[hval,okB_false])
  rw[← hQ] at e1;rw[← hT] at e2
  subst e1;subst e2
  clear hval hQ hT
  obtain⟨k,t,n,l⟩:=x
  refine go (fn:=Proofs.Tryz.f33) (n:=21) (rv:=[ResultVar.cell 4 37,ResultVar.tmp 5]) rfl (by decide) rfl (by decide +kernel) rfl rfl (by simp) fun F L C=>?_
  cbv
  (repeat' first|(refine Na ?_ fun _ _=>?_;(focus lia);cbv)|(refine CallThen.mk _ _ (C.fn (kc)) ?_;cbv)|(refine Nl fun _ _ hq=>?_;(try simp only [lenS] at hq);cbv)|(refine Nm fun _ _=>?_;cbv)|(refine Br.t ?_ ?_;(focus first|assumption|lia);cbv)|(refine Br.f ?_ ?_;(focus first|assumption|lia);cbv)|(refine Br.mk (fun _=>?_) (fun _=>?_)<;>cbv)|(refine Need.mk ?_ ?_;rotate_left;cbv)|(refine R0 ?_;cbv))
  all_goals first
   | exact⟨rfl,rfl,rfl,rfl,rfl,rfl,trivial⟩
   | exact⟨rfl,rfl,trivial⟩
   | exact⟨rfl,trivial⟩
   | exact trivial
   | (exfalso;clear kc;lia)
   | (clear kc;simp only [List.length_cons,List.length_nil];lia)
   | trace_state
 ·by_cases hv:r.Ok
  ·obtain⟨e1,e2⟩:=val_yes (show valO d x=some r by rw[hval,okB,if_pos ⟨rfl,hv⟩])
   rw[← hQ] at e1;rw[← hT] at e2
   subst e1;subst e2
   have kr:=rcheck2_ok hv
   clear hval hT hv hQ
   obtain⟨k,t,n,l⟩:=x
   obtain⟨r1,r2,r3,r4,r5⟩:=Q
   refine go (fn:=Proofs.Tryz.f33) (n:=21) (rv:=[ResultVar.cell 4 37,ResultVar.tmp 5]) rfl (by decide) rfl (by decide +kernel) rfl rfl (by simp) fun F L C=>?_
   cbv
   (repeat' first|(refine Na ?_ fun _ _=>?_;(focus lia);cbv)|(refine CallThen.mk _ _ (C.fn (kc)) ?_;cbv)|(refine CallThen.mk _ _ (C.fn (kr)) ?_;cbv)|(refine Nl fun _ _ hq=>?_;(try simp only [lenS] at hq);cbv)|(refine Nm fun _ _=>?_;cbv)|(refine Br.t ?_ ?_;(focus first|assumption|lia);cbv)|(refine Br.f ?_ ?_;(focus first|assumption|lia);cbv)|(refine Br.mk (fun _=>?_) (fun _=>?_)<;>cbv)|(refine Need.mk ?_ ?_;rotate_left;cbv)|(refine R0 ?_;cbv))
   all_goals first
    | exact⟨rfl,rfl,rfl,rfl,rfl,rfl,trivial⟩
    | exact⟨rfl,rfl,trivial⟩
    | exact⟨rfl,trivial⟩
    | exact trivial
    | (exfalso;clear kc kr;lia)
    | (clear kc kr;simp only [List.length_cons,List.length_nil];lia)
    | trace_state
  ·obtain⟨e1,e2⟩:=val_no (show valO d x=none by rw[hval,okB_bad hv])
   rw[← hQ] at e1;rw[← hT] at e2
   subst e1;subst e2
   obtain⟨e,he,kr⟩:=rcheck2_bad hv
   clear hval hQ hT hv
   obtain⟨k,t,n,l⟩:=x
   obtain⟨r1,r2,r3,r4,r5⟩:=r
   refine go (fn:=Proofs.Tryz.f33) (n:=21) (rv:=[ResultVar.cell 4 37,ResultVar.tmp 5]) rfl (by decide) rfl (by decide +kernel) rfl rfl (by simp) fun F L C=>?_
   cbv
   (repeat' first|(refine Na ?_ fun _ _=>?_;(focus lia);cbv)|(refine CallThen.mk _ _ (C.fn (kc)) ?_;cbv)|(refine CallThen.mk _ _ (C.fn (kr)) ?_;cbv)|(refine Nl fun _ _ hq=>?_;(try simp only [lenS] at hq);cbv)|(refine Nm fun _ _=>?_;cbv)|(refine Br.t ?_ ?_;(focus first|assumption|lia);cbv)|(refine Br.f ?_ ?_;(focus first|assumption|lia);cbv)|(refine Br.mk (fun _=>?_) (fun _=>?_)<;>cbv)|(refine Need.mk ?_ ?_;rotate_left;cbv)|(refine R0 ?_;cbv))
   all_goals first
    | exact⟨rfl,rfl,rfl,rfl,rfl,rfl,trivial⟩
    | exact⟨rfl,rfl,trivial⟩
    | exact⟨rfl,trivial⟩
    | exact trivial
    | (exfalso;clear kc kr;lia)
    | (clear kc kr;simp only [List.length_cons,List.length_nil];lia)
    | trace_state
end Go.Sym
