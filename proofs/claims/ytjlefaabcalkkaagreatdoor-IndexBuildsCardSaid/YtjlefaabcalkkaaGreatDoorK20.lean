/- Values of expressions, the document's: an expression's value (walks). -/
import Derived.Test.YtjlefaabcalkkaaGreatDoorK14
import Derived.Test.YtjlefaabcalkkaaGreatDoorK13
import Derived.Test.YtjlefaabcalkkaaGreatDoorK19
set_option linter.all false
set_option linter.unusedVariables false
set_option linter.unusedSimpArgs false
namespace Go.Sym
open Go Go.Proofs.Tryz
set_option maxRecDepth 100000
theorem extract1 {t:ByteArray} (h:t≠ByteArray.empty):1≤t.size:=by
 rcases Nat.eq_zero_or_pos t.size with h0|h0
 ·exact absurd (ByteArray.size_eq_zero_iff.1 h0) h
 ·exact h0
theorem rcall_all {w:List UInt8} (hw:nameL w=true) {v:Val} (hv:v.Ok):∃ r B,Fn prog 174 [.str (ofL w),.agg v.enc] [] [.agg (Val.enc r),.bool B] []∧okV (callO w v)=okBv B r:=by
 rcases val_cases hv with ⟨m,rfl,hm⟩ | ⟨x,y,rfl,hp⟩ | ⟨s,rfl,hs⟩
 ·exact⟨_,_,rcall_n,okV_not (by simp [callO,numV,okV])⟩
 ·rcases name_cases hw with rfl|rfl|rfl|rfl|rfl
  ·exact⟨_,_,rcall_norm hp rfl,okV_is (by simp [callO,pointV])⟩
  ·exact⟨_,_,rcall_conj hp rfl,okV_is (by simp [callO,pointV,show ¬ nConj=nNorm by decide])⟩
  ·exact⟨_,_,rcall_turn hp rfl,okV_is (by simp [callO,pointV,show ¬ nTurn=nNorm by decide,show ¬ nTurn=nConj by decide])⟩
  ·exact⟨_,_,rcall_pLow,okV_not (by simp [callO,pointV,show ¬ nLow=nNorm by decide,show ¬ nLow=nConj by decide,show ¬ nLow=nTurn by decide,okV])⟩
  ·exact⟨_,_,rcall_pHead,okV_not (by simp [callO,pointV,show ¬ nHead=nNorm by decide,show ¬ nHead=nConj by decide,show ¬ nHead=nTurn by decide,okV])⟩
 ·rcases name_cases hw with rfl|rfl|rfl|rfl|rfl
  ·exact⟨_,_,rcall_tNorm,okV_not (by simp [callO,textV,show ¬ nNorm=nLow by decide,show ¬ nNorm=nHead by decide,okV])⟩
  ·exact⟨_,_,rcall_tConj,okV_not (by simp [callO,textV,show ¬ nConj=nLow by decide,show ¬ nConj=nHead by decide,okV])⟩
  ·exact⟨_,_,rcall_tTurn,okV_not (by simp [callO,textV,show ¬ nTurn=nLow by decide,show ¬ nTurn=nHead by decide,okV])⟩
  ·exact⟨_,_,rcall_low rfl (by omega),okV_is (by simp [callO,textV])⟩
  ·by_cases he:s=ByteArray.empty
   ·refine⟨_,_,rcall_headE he,okV_is ?_⟩
    subst he
    simp [callO,textV,show ¬ nHead=nLow by decide,headS]
   ·have h1:=extract1 he
    refine⟨_,_,rcall_head1 he h1 rfl,okV_is ?_⟩
    simp [callO,textV,show ¬ nHead=nLow by decide,headS,Nat.min_eq_left h1]
theorem get_at {d:Doc} {p:ByteArray}:(getI d p<0∧getB d p=false)∨(0≤getI d p∧getB d p=true∧∃ q,d[(getI d p).toNat]?=some ⟨q,getV d p⟩):=by
 by_cases h:getB d p=true
 ·right
  have h0:0≤getI d p:=findI_ge.2 h
  obtain⟨f,hf,hp⟩:=findI_lt h0
  refine⟨h0,h,f.path,?_⟩
  have hv:getV d p=f.val:=by
   unfold getV
   rw[find_at (k:=(getI d p).toNat) (by show findI _ d=_;have:getI d p=findI (hasP p) d:=rfl;omega)]
   rw[show d[(getI d p).toNat]?=some f from hf];rfl
  rw[hv];exact hf
 ·left
  refine⟨?_,by simpa using h⟩
  rcases Int.lt_or_le (getI d p) 0 with h1|h1
  ·exact h1
  ·exact absurd (findI_ge.1 h1) h
set_option maxHeartbeats 4000000 in
theorem raw_fn (O:Opq) (d:Doc) (hd:d.length≤1099511627776) {x:Nd} (hm:madeB x=true) (ih:∀ a∈x.args,Fn prog 122 [.agg (a.en O),.sl false 0 false 6 (O.o Doc.enc d)] [] [.agg (Val.enc (O.o (valV d) a)),.bool (O.o (valB d) a)] []) :
  ∃ r B,Fn prog 147 [.agg (x.en O),.sl false 0 false 6 (O.o Doc.enc d)] [] [.agg (Val.enc r),.bool B] []∧valO d x=okBv B r:=by
 obtain⟨k,t,n,l⟩:=x
 have ih:∀ a∈l,Fn prog 122 [.agg (a.en O),.sl false 0 false 6 (O.o Doc.enc d)] [] [.agg (Val.enc (O.o (valV d) a)),.bool (O.o (valB d) a)] []:=ih
 have hma:=made_args hm
 -- what is right of its answer
 have fin:∃ r B,valO d (.mk k t n l)=okBv B r∧(valsO d l=none→r=zeroV∧B=false)∧∀ vs,valsO d l=some vs →
   (k=1→(B=false∧r=zeroV∧getI d (ofL t)<0)∨(B=true∧0≤getI d (ofL t)∧∃ q,d[(getI d (ofL t)).toNat]?=some ⟨q,r⟩))∧(k=2→B=true∧r=numV n) ∧
   (k=4→∀ a b,vs=[a,b]→Fn prog 171 [.agg a.enc,.agg b.enc] [] [.agg (Val.enc r),.bool B] []) ∧
   (k=5→∀ a,vs=[a]→Fn prog 174 [.str (ofL t),.agg a.enc] [] [.agg (Val.enc r),.bool B] []) ∧
   (k=3→∀ a b,vs=[a,b]→(B=false∧r=zeroV∧a.kind≠b.kind)∨(B=true∧∃ x y,a=numV x∧b=numV y∧r=numV (x+y)∧-9007199254740992≤x∧x≤9007199254740992∧-9007199254740992≤y∧y≤9007199254740992) ∨
    (B=true∧∃ s s',a=textV s∧b=textV s'∧r=textV (s++s')∧s.size≤256∧s'.size≤256)∨(B=true∧∃ x y x' y',a=pointV x y∧b=pointV x' y'∧r=pointV (x+x') (y+y')∧gOk x y=true∧gOk x' y'=true)):=by
  cases hvs:valsO d l with
  | none=>exact⟨zeroV,false,by rw[valO,hvs,okB_false],fun _=>⟨rfl,rfl⟩,fun vs h=>by cases h⟩
  | some vs =>
   have hx0:valO d (.mk k t n l)=okV (rawO d k t n vs):=by rw[valO,hvs]
   have hok:=valsO_ok hvs
   have hlen:=valsO_len hvs
   rw[hx0]
   rcases hma with ⟨rfl,rfl⟩ | ⟨rfl,rfl⟩ | ⟨hk34,a,b,rfl⟩ | ⟨rfl,hw,a,rfl⟩
   ·have hr:rawO d 1 t n vs=if getB d (ofL t)=true then some (getV d (ofL t)) else none:=by unfold rawO;rw[if_pos rfl]
    rw[hr]
    rcases @get_at d (ofL t) with ⟨h1,h2⟩ | ⟨h1,h2,q,h3⟩
    ·exact⟨zeroV,false,by rw[h2];exact okV_not rfl,fun h=>(by cases h),fun vs' e=>⟨fun _=>.inl ⟨rfl,rfl,h1⟩,fun h=>(by cases h),fun h=>(by cases h),fun h=>(by cases h),fun h=>(by cases h)⟩⟩
    ·exact⟨_,true,by rw[h2];exact okV_is rfl,fun h=>(by cases h),fun vs' e=>⟨fun _=>.inr ⟨rfl,h1,q,h3⟩,fun h=>(by cases h),fun h=>(by cases h),fun h=>(by cases h),fun h=>(by cases h)⟩⟩
   ·exact⟨numV n,true,okV_is (by unfold rawO;rw[if_neg (by decide),if_pos rfl]),fun h=>(by cases h),fun vs' e=>⟨fun h=>(by cases h),fun _=>⟨rfl,rfl⟩,fun h=>(by cases h),fun h=>(by cases h),fun h=>(by cases h)⟩⟩
   ·obtain⟨va,vb,rfl⟩:∃ va vb,vs=[va,vb]:=match vs,hlen with
     | [va,vb],_=>⟨va,vb,rfl⟩
    have oa:=hok va (by simp)
    have ob:=hok vb (by simp)
    rcases hk34 with rfl|rfl
    ·have hr:rawO d 3 t n [va,vb]=twoO 3 va vb:=by simp [rawO]
     rw[hr]
     suffices h:∃ r B,okV (twoO 3 va vb)=okBv B r∧((B=false∧r=zeroV∧va.kind≠vb.kind)∨(B=true∧∃ x y,va=numV x∧vb=numV y∧r=numV (x+y)∧-9007199254740992≤x∧x≤9007199254740992∧-9007199254740992≤y∧y≤9007199254740992) ∨
       (B=true∧∃ s s',va=textV s∧vb=textV s'∧r=textV (s++s')∧s.size≤256∧s'.size≤256)∨(B=true∧∃ x y x' y',va=pointV x y∧vb=pointV x' y'∧r=pointV (x+x') (y+y')∧gOk x y=true∧gOk x' y'=true)) by
      obtain⟨r,B,h1,h2⟩:=h
      exact⟨r,B,h1,fun h=>(by cases h),fun vs' e=>⟨fun h=>(by cases h),fun h=>(by cases h),fun h=>(by cases h),fun h=>(by cases h),fun _ a b e2=>by rw[← Option.some.inj e] at e2;cases e2;exact h2⟩⟩
     rcases val_cases oa with ⟨m,rfl,hm⟩ | ⟨x,y,rfl,hp⟩ | ⟨s,rfl,hs⟩<;>rcases val_cases ob with ⟨n,rfl,hn⟩ | ⟨u,v,rfl,hq⟩ | ⟨s',rfl,hs'⟩
     ·exact⟨_,true,okV_is (by simp [twoO,numV]),.inr (.inl ⟨rfl,m,n,rfl,rfl,rfl,hm.1,hm.2,hn.1,hn.2⟩)⟩
     ·exact⟨zeroV,false,okV_not (by simp [twoO,numV,pointV,okV]),.inl ⟨rfl,rfl,by simp [numV,pointV]⟩⟩
     ·exact⟨zeroV,false,okV_not (by simp [twoO,numV,textV,okV]),.inl ⟨rfl,rfl,by simp [numV,textV]⟩⟩
     ·exact⟨zeroV,false,okV_not (by simp [twoO,numV,pointV,okV]),.inl ⟨rfl,rfl,by simp [numV,pointV]⟩⟩
     ·exact⟨_,true,okV_is (by simp [twoO,pointV]),.inr (.inr (.inr ⟨rfl,x,y,u,v,rfl,rfl,rfl,hp,hq⟩))⟩
     ·exact⟨zeroV,false,okV_not (by simp [twoO,pointV,textV,okV]),.inl ⟨rfl,rfl,by simp [pointV,textV]⟩⟩
     ·exact⟨zeroV,false,okV_not (by simp [twoO,numV,textV,okV]),.inl ⟨rfl,rfl,by simp [numV,textV]⟩⟩
     ·exact⟨zeroV,false,okV_not (by simp [twoO,pointV,textV,okV]),.inl ⟨rfl,rfl,by simp [pointV,textV]⟩⟩
     ·exact⟨_,true,okV_is (by simp [twoO,textV]),.inr (.inr (.inl ⟨rfl,s,s',rfl,rfl,rfl,hs,hs'⟩))⟩
    ·have hr:rawO d 4 t n [va,vb]=twoO 4 va vb:=by simp [rawO]
     rw[hr]
     obtain⟨r,B,kc,hv⟩:=rmul_all oa ob
     exact⟨r,B,hv,fun h=>(by cases h),fun vs' e=>⟨fun h=>(by cases h),fun h=>(by cases h),fun _ a b e2=>by rw[← Option.some.inj e] at e2;cases e2;exact kc,fun h=>(by cases h),fun h=>(by cases h)⟩⟩
   ·obtain⟨va,rfl⟩:∃ va,vs=[va]:=match vs,hlen with
     | [va],_=>⟨va,rfl⟩
    have oa:=hok va (by simp)
    have hr:rawO d 5 t n [va]=callO t va:=by simp [rawO]
    rw[hr]
    obtain⟨r,B,kc,hv⟩:=rcall_all hw oa
    exact⟨r,B,hv,fun h=>(by cases h),fun vs' e=>⟨fun h=>(by cases h),fun h=>(by cases h),fun h=>(by cases h),fun _ a e2=>by rw[← Option.some.inj e] at e2;cases e2;exact kc,fun h=>(by cases h)⟩⟩
 obtain⟨r,B,hval,hnone,hsome⟩:=fin
 refine⟨r,B,?_,hval⟩
 clear hval
 have hlen:=Nds.en_len O l
 obtain⟨N,hN⟩:∃ N:Nat,N=l.length:=⟨_,rfl⟩
 have hN2:N≤2:=by
  rw[hN]
  rcases hma with ⟨_,rfl⟩ | ⟨_,rfl⟩ | ⟨_,a,b,rfl⟩ | ⟨_,_,a,rfl⟩<;>simp
 have hk5:k=1∨k=2∨(k=3∧l.length=2)∨(k=4∧l.length=2)∨(k=5∧l.length=1):=by
  rcases hma with ⟨h,_⟩ | ⟨h,_⟩ | ⟨h|h,a,b,rfl⟩ | ⟨h,_,a,rfl⟩<;>simp [h]
 obtain⟨R,hR⟩:∃ R:Nat→List (List PV),R=fun i=>Vals.enc (valsF d l i):=⟨_,rfl⟩
 have hRl:∀ i,i≤N→valsO d (l.take i)=some (valsF d l i)→(R i).length=i:=fun i hi h=>by
  rw[hR];show(Vals.enc _).length=i
  rw[Vals.enc_len,valsO_len h,List.length_take];omega
 have hRs:∀ (i:Nat) a v,l[i]?=some a→valsO d (l.take i)=some (valsF d l i)→valO d a=some v→R (i+1)=R i++[v.enc]:=fun i a v h1 h2 h3=>by
  rw[hR];show Vals.enc _=Vals.enc _++_
  rw[(valsF_succ h1 h2 h3).2,Vals.enc,Vals.enc,List.map_append];rfl
 have hR0:R 0=[]:=by rw[hR];show Vals.enc _=_;rw[(valsF_zero d l).1];rfl
 obtain⟨z,hz⟩:∃ z:Nat,z=0:=⟨_,rfl⟩
 have hRz:R z=[]:=by rw[hz];exact hR0
 have h0:valsO d (l.take z)=some (valsF d l z):=by rw[hz];exact(valsF_zero d l).2
 clear hm
 refine go (fn:=Proofs.Tryz.f147) (n:=124) (rv:=[ResultVar.cell 4 92,ResultVar.tmp 5]) rfl (by decide) rfl (by decide +kernel) rfl rfl (by simp) fun F L C=>?_
 cbv
 skip
 refine LoopThen.mk (C.loopAt (ι:=Nat) [(5,9),(14,37)] (fun i=>[(6,.ref 50),(13,.top),(7,.int .i64 i)]) (fun i=>[(50,.arr 0 none 5 (R i)),(256,.box [.int .i64 k,.str (O.o ofL t),.int .i64 n,.sl false 0 false 4 (O.o Nds.enc l)]),(384,.box [.int .i64 0,.int .i64 0,.str ByteArray.empty,.int .i64 0,.int .i64 0])])
  (fun i=>i≤N∧valsO d (l.take i)=some (valsF d l i)) (fun i=>N-i) (by decide +kernel) (Start.mk z [(50,.loc 960)] [] ⟨by omega,h0⟩ ?_) ?_)
 ·clear hRs hRl ih hsome hnone
  cbv
  (repeat' apply And.intro)<;>first|exact True.intro|exact WkR.refl _|rfl|(rw[hRz];exact WkR.refl _)|(clear hRz h0;lia)|trace_state
 intro i g
 cbv
 have g1:i≤N:=g.1
 have g2:valsO d (l.take i)=some (valsF d l i):=g.2
 clear g
 clear hRz h0 hR0
 by_cases hi:i<N
 ·obtain⟨a,ha⟩:∃ a,l[i]?=some a:=⟨l[i]'(by omega),List.getElem?_eq_getElem (by omega)⟩
  have hc:=ih a (List.mem_of_getElem? ha)
  have hRi:=hRl i g1 g2
  cases hva:valO d a with
  | none =>
   obtain⟨e1,e2⟩:=val_no hva
   rw[O.h (valV d),O.h (valB d),e1,e2] at hc
   obtain⟨rfl,rfl⟩:=hnone (valsO_take_none ha hva)
   clear hsome hRs hRl ih hva g2 hma hR hnone
   obtain⟨ak,at',an,al⟩:=a
   (repeat' first|(refine Ex.nd O ha ?_ ?_;(focus lia);cbv)|(refine CallThen.mk _ _ (C.fn (hc)) ?_;cbv)|(refine Nm fun _ _=>?_;cbv)|(refine Br.t ?_ ?_;(focus first|assumption|lia);cbv)|(refine R0 ?_;cbv))
   all_goals first
    | exact⟨rfl,rfl,rfl,rfl,rfl,rfl,trivial⟩
    | exact⟨rfl,rfl,trivial⟩
    | exact⟨rfl,trivial⟩
    | exact trivial
    | (exfalso;clear hc;lia)
    | (clear hc;simp only [List.length_cons,List.length_nil];lia)
    | trace_state
  | some v =>
   obtain⟨e1,e2⟩:=val_yes hva
   rw[O.h (valV d),O.h (valB d),e1,e2] at hc
   have hs:=hRs i a v ha g2 hva
   have hg:=(valsF_succ ha g2 hva).1
   clear hRs hRl ih hva g2 hma hR hsome hnone
   obtain⟨ak,at',an,al⟩:=a
   obtain⟨v1,v2,v3,v4,v5⟩:=v
   (repeat' first|(refine Na ?_ fun _ _=>?_;(focus lia);cbv)|(refine Ex.nd O ha ?_ ?_;(focus lia);cbv)|(refine CallThen.mk _ _ (C.fn (hc)) ?_;cbv)|(refine Back.up [(50,.loc 2496)] [] ?_ ?_ fun _ _=>?_;rotate_left 2;cbv;refine And.intro ?_ ?_)|(refine Nl fun _ _ hq=>?_;(try simp only [lenS] at hq);cbv)|(refine Nm fun _ _=>?_;cbv)|(refine Br.t ?_ ?_;(focus first|assumption|lia);cbv)|(refine Need.mk ?_ ?_;rotate_left;cbv))
   all_goals(repeat' apply And.intro)
   all_goals try first
    | exact True.intro
    | exact WkR.refl _
    | rfl
    | exact hg
    | (clear hc hs hg;lia)
   all_goals try
    (rw[hRi];simp only [List.length_cons,List.length_nil];clear hc hs;omega)
   all_goals
    rename_i q hq1 _ _ k' hk'
    rw[hk',hq1]
    exact WkR.of_eq hs
 ·have hiN:i=N:=by omega
  have htk:l.take i=l:=List.take_of_length_le (by omega)
  rw[htk] at g2
  obtain⟨vs,hvs⟩:∃ vs,vs=valsF d l i:=⟨_,rfl⟩
  have hRi:R i=Vals.enc vs:=by rw[hR,hvs]
  rw[← hvs] at g2
  obtain⟨c1,c2,c4,c5,c3⟩:=hsome vs g2
  have hlv:=valsO_len g2
  clear hRs hRl hR ih htk hvs hsome hnone g2 hma
  rcases hk5 with rfl|rfl | ⟨rfl,hl⟩ | ⟨rfl,hl⟩ | ⟨rfl,hl⟩
  ·have kc:=rget_fn O d (O.o ofL t) hd
   obtain⟨I,hI⟩:∃ I,I=getI d (ofL t):=⟨_,rfl⟩
   rw[show O.o getI d (O.o ofL t)=I by rw[O.h,O.h];exact hI.symm] at kc
   rw[← hI] at c1
   clear c2 c3 c4 c5 hRi hI
   rcases c1 rfl with ⟨rfl,rfl,h1⟩ | ⟨rfl,h1,q,h2⟩
   ·clear c1
    (repeat' first|(refine CallThen.mk _ _ (C.fn (kc)) ?_;cbv)|(refine Nm fun _ _=>?_;cbv)|(refine Br.t ?_ ?_;(focus first|assumption|lia);cbv)|(refine Br.f ?_ ?_;(focus first|assumption|lia);cbv)|(refine R0 ?_;cbv))
    all_goals first
     | exact⟨rfl,rfl,rfl,rfl,rfl,rfl,trivial⟩
     | exact⟨rfl,rfl,trivial⟩
     | exact⟨rfl,trivial⟩
     | exact trivial
     | (exfalso;clear kc;lia)
     | (clear kc;simp only [List.length_cons,List.length_nil];lia)
     | trace_state
   ·have hrow:(O.o Doc.enc d)[I.toNat]?=some (Field.enc ⟨q,r⟩):=by rw[O.h,Doc.enc,List.getElem?_map,h2];rfl
    clear c1 h2
    obtain⟨r1,r2,r3,r4,r5⟩:=r
    (repeat' first|(refine CallThen.mk _ _ (C.fn (kc)) ?_;cbv)|(refine Ex.mk _ ⟨h1,hrow⟩ ?_;cbv)|(refine Nm fun _ _=>?_;cbv)|(refine Br.t ?_ ?_;(focus first|assumption|lia);cbv)|(refine Br.f ?_ ?_;(focus first|assumption|lia);cbv)|(refine R0 ?_;cbv))
    all_goals first
     | exact⟨rfl,rfl,rfl,rfl,rfl,rfl,trivial⟩
     | exact⟨rfl,rfl,trivial⟩
     | exact⟨rfl,trivial⟩
     | exact trivial
     | (exfalso;clear kc hrow;lia)
     | (clear kc hrow;simp only [List.length_cons,List.length_nil];lia)
     | trace_state
  ·obtain⟨rfl,rfl⟩:=c2 rfl
   have kc:=rnumX_fn n
   clear c1 c3 c4 c5 hRi
   (repeat' first|(refine CallThen.mk _ _ (C.fn (kc)) ?_;cbv)|(refine Nm fun _ _=>?_;cbv)|(refine Br.t ?_ ?_;(focus first|assumption|lia);cbv)|(refine Br.f ?_ ?_;(focus first|assumption|lia);cbv)|(refine R0 ?_;cbv))
   all_goals first
    | exact⟨rfl,rfl,rfl,rfl,rfl,rfl,trivial⟩
    | exact⟨rfl,rfl,trivial⟩
    | exact⟨rfl,trivial⟩
    | exact trivial
    | (exfalso;clear kc;lia)
    | (clear kc;simp only [List.length_cons,List.length_nil];lia)
    | trace_state
  ·obtain⟨va,vb,rfl⟩:∃ va vb,vs=[va,vb]:=match vs,(show vs.length=2 by omega) with
    | [va,vb],_=>⟨va,vb,rfl⟩
   have hRi:R i=[va.enc,vb.enc]:=hRi
   rw[hRi]
   have c3:=c3 rfl va vb rfl
   clear c1 c2 c4 c5 hRi
   rcases c3 with ⟨rfl,rfl,hne⟩ | ⟨rfl,x,y,rfl,rfl,rfl,b1,b2,b3,b4⟩ | ⟨rfl,s,s',rfl,rfl,rfl,b1,b2⟩ | ⟨rfl,x,y,x',y',rfl,rfl,rfl,b1,b2⟩
   ·obtain⟨a1,a2,a3,a4,a5⟩:=va
    obtain⟨b1,b2,b3,b4,b5⟩:=vb
    have hne:¬ a1=b1:=hne
    (repeat' first|(refine Named.atG 0 rfl ?_;cbv)|(refine Named.atG 1 rfl ?_;cbv)|(refine Ex.mk _ ⟨by decide,rfl⟩ ?_;cbv)|(refine Nm fun _ _=>?_;cbv)|(refine Br.t ?_ ?_;(focus first|assumption|lia);cbv)|(refine Br.f ?_ ?_;(focus first|assumption|lia);cbv)|(refine Need.mk ?_ ?_;rotate_left;cbv)|(refine R0 ?_;cbv))
    all_goals first
     | exact⟨rfl,rfl,rfl,rfl,rfl,rfl,trivial⟩
     | exact⟨rfl,rfl,trivial⟩
     | exact⟨rfl,trivial⟩
     | exact trivial
     | (exfalso;skip;lia)
     | (skip;simp only [List.length_cons,List.length_nil];lia)
     | trace_state
   ·obtain⟨q,hq⟩:∃ q,q=x+y:=⟨_,rfl⟩
    rw[← hq]
    have nq:q=IntKind.i64.wrap (x+y):=by rw[wrap64 (by omega)];exact hq
    have kc:=rnumX_fn q
    clear hq
    (repeat' first|(refine Named.atG 0 rfl ?_;cbv)|(refine Named.atG 1 rfl ?_;cbv)|(refine Named.atG q nq ?_;cbv)|(refine Ex.mk _ ⟨by decide,rfl⟩ ?_;cbv)|(refine CallThen.mk _ _ (C.fn (kc)) ?_;cbv)|(refine Nm fun _ _=>?_;cbv)|(refine Br.t ?_ ?_;(focus first|assumption|lia);cbv)|(refine Br.f ?_ ?_;(focus first|assumption|lia);cbv)|(refine Need.mk ?_ ?_;rotate_left;cbv)|(refine R0 ?_;cbv))
    all_goals first
     | exact⟨rfl,rfl,rfl,rfl,rfl,rfl,trivial⟩
     | exact⟨rfl,rfl,trivial⟩
     | exact⟨rfl,trivial⟩
     | exact trivial
     | (exfalso;clear nq kc;lia)
     | (clear nq kc;simp only [List.length_cons,List.length_nil];lia)
     | trace_state
   ·obtain⟨q,hq⟩:∃ q,q=s++s':=⟨_,rfl⟩
    rw[← hq]
    have kc:=rtext_fn q
    (repeat' first|(refine Named.atG 0 rfl ?_;cbv)|(refine Named.atG 1 rfl ?_;cbv)|(refine Named.atG q hq ?_;cbv)|(refine Ex.mk _ ⟨by decide,rfl⟩ ?_;cbv)|(refine CallThen.mk _ _ (C.fn (kc)) ?_;cbv)|(refine Nm fun _ _=>?_;cbv)|(refine Br.t ?_ ?_;(focus first|assumption|lia);cbv)|(refine Br.f ?_ ?_;(focus first|assumption|lia);cbv)|(refine Need.mk ?_ ?_;rotate_left;cbv)|(refine R0 ?_;cbv))
    all_goals try(clear hq kc;omega)
    all_goals first
     | exact⟨rfl,rfl,rfl,rfl,rfl,rfl,trivial⟩
     | exact⟨rfl,rfl,trivial⟩
     | exact⟨rfl,trivial⟩
     | exact trivial
     | (exfalso;clear hq kc;lia)
     | (clear hq kc;simp only [List.length_cons,List.length_nil];lia)
     | trace_state
   ·obtain⟨p1,h1⟩:∃ q,q=x+x':=⟨_,rfl⟩
    obtain⟨p2,h2⟩:∃ q,q=y+y':=⟨_,rfl⟩
    have o1:=gOk_iff.1 b1
    have o2:=gOk_iff.1 b2
    rw[← h1,← h2]
    have n1:p1=IntKind.i64.wrap (x+x'):=by rw[wrap64 (by omega)];exact h1
    have n2:p2=IntKind.i64.wrap (y+y'):=by rw[wrap64 (by omega)];exact h2
    have kc:=rpoint_fn p1 p2
    clear h1 h2 o1 o2 b1 b2
    (repeat' first|(refine Named.atG 0 rfl ?_;cbv)|(refine Named.atG 1 rfl ?_;cbv)|(refine Named.atG p1 n1 ?_;cbv)|(refine Named.atG p2 n2 ?_;cbv)|(refine Ex.mk _ ⟨by decide,rfl⟩ ?_;cbv)|(refine CallThen.mk _ _ (C.fn (kc)) ?_;cbv)|(refine Nm fun _ _=>?_;cbv)|(refine Br.t ?_ ?_;(focus first|assumption|lia);cbv)|(refine Br.f ?_ ?_;(focus first|assumption|lia);cbv)|(refine Need.mk ?_ ?_;rotate_left;cbv)|(refine R0 ?_;cbv))
    all_goals first
     | exact⟨rfl,rfl,rfl,rfl,rfl,rfl,trivial⟩
     | exact⟨rfl,rfl,trivial⟩
     | exact⟨rfl,trivial⟩
     | exact trivial
     | (exfalso;clear n1 n2 kc;lia)
     | (clear n1 n2 kc;simp only [List.length_cons,List.length_nil];lia)
     | trace_state
  ·obtain⟨va,vb,rfl⟩:∃ va vb,vs=[va,vb]:=match vs,(show vs.length=2 by omega) with
    | [va,vb],_=>⟨va,vb,rfl⟩
   have hRi:R i=[va.enc,vb.enc]:=hRi
   rw[hRi]
   have kc:=c4 rfl va vb rfl
   clear c1 c2 c3 c4 c5 hRi
   obtain⟨a1,a2,a3,a4,a5⟩:=va
   obtain⟨b1,b2,b3,b4,b5⟩:=vb
   obtain⟨r1,r2,r3,r4,r5⟩:=r
   (repeat' first|(refine Named.atG 0 rfl ?_;cbv)|(refine Named.atG 1 rfl ?_;cbv)|(refine Ex.mk _ ⟨by decide,rfl⟩ ?_;cbv)|(refine CallThen.mk _ _ (C.fn (kc)) ?_;cbv)|(refine Nm fun _ _=>?_;cbv)|(refine Br.t ?_ ?_;(focus first|assumption|lia);cbv)|(refine Br.f ?_ ?_;(focus first|assumption|lia);cbv)|(refine Need.mk ?_ ?_;rotate_left;cbv)|(refine R0 ?_;cbv))
   all_goals first
    | exact⟨rfl,rfl,rfl,rfl,rfl,rfl,trivial⟩
    | exact⟨rfl,rfl,trivial⟩
    | exact⟨rfl,trivial⟩
    | exact trivial
    | (exfalso;clear kc;lia)
    | (clear kc;simp only [List.length_cons,List.length_nil];lia)
    | trace_state
  ·obtain⟨va,rfl⟩:∃ va,vs=[va]:=match vs,(show vs.length=1 by omega) with
    | [va],_=>⟨va,rfl⟩
   have hRi:R i=[va.enc]:=hRi
   rw[hRi]
   have kc:=c5 rfl va rfl
   rw[show ofL t=O.o ofL t by rw[O.h]] at kc
   clear c1 c2 c3 c4 c5 hRi
   obtain⟨a1,a2,a3,a4,a5⟩:=va
   obtain⟨r1,r2,r3,r4,r5⟩:=r
   (repeat' first|(refine Named.atG 0 rfl ?_;cbv)|(refine Ex.mk _ ⟨by decide,rfl⟩ ?_;cbv)|(refine CallThen.mk _ _ (C.fn (kc)) ?_;cbv)|(refine Nm fun _ _=>?_;cbv)|(refine Br.f ?_ ?_;(focus first|assumption|lia);cbv)|(refine Need.mk ?_ ?_;rotate_left;cbv)|(refine R0 ?_;cbv))
   all_goals first
    | exact⟨rfl,rfl,rfl,rfl,rfl,rfl,trivial⟩
    | exact⟨rfl,rfl,trivial⟩
    | exact⟨rfl,trivial⟩
    | exact trivial
    | (exfalso;clear kc;lia)
    | (clear kc;simp only [List.length_cons,List.length_nil];lia)
    | trace_state
theorem rcheck2_ok {v:Val} (h:v.Ok):Fn prog 47 [.agg v.enc] [] [.int .i64 0] []:=by
 have k:=rcheck2_fn Opq.id v
 rwa [Opq.id.h,Val.err_ok.2 h] at k
theorem rcheck2_bad {v:Val} (h:¬ v.Ok):∃ e,e≠0∧Fn prog 47 [.agg v.enc] [] [.int .i64 e] []:=by
 have k:=rcheck2_fn Opq.id v
 rw[Opq.id.h] at k
 exact⟨_,fun q=>h (Val.err_ok.1 q),k⟩
theorem rvalue_fn (O:Opq) (d:Doc) (hd:d.length≤1099511627776) {x:Nd} (h:Made x):Fn prog 122 [.agg (x.en O),.sl false 0 false 6 (O.o Doc.enc d)] [] [.agg (Val.enc (O.o (valV d) x)),.bool (O.o (valB d) x)] []:=by
 induction h with
 | @mk x hm hk ih =>
 obtain⟨r,B,kc,hval⟩:=raw_fn O d hd hm ih
 obtain⟨Q,hQ⟩:∃ Q,Q=valV d x:=⟨_,rfl⟩
 obtain⟨T,hT⟩:∃ T,T=valB d x:=⟨_,rfl⟩
 rw[O.h (valV d),O.h (valB d),← hQ,← hT]
 clear ih hk hm
 cases B
 ·obtain⟨e1,e2⟩:=val_no (show valO d x=none by rw[hval,okB_false])
  rw[← hQ] at e1;rw[← hT] at e2
  subst e1;subst e2
  clear hval hQ hT
  obtain⟨k,t,n,l⟩:=x
  refine go (fn:=Proofs.Tryz.f122) (n:=21) (rv:=[ResultVar.cell 4 92,ResultVar.tmp 5]) rfl (by decide) rfl (by decide +kernel) rfl rfl (by simp) fun F L C=>?_
  cbv
  (repeat' first|(refine CallThen.mk _ _ (C.fn (kc)) ?_;cbv)|(refine R0 ?_;cbv))
  all_goals first
   | exact⟨rfl,rfl,rfl,rfl,rfl,rfl,trivial⟩
   | exact⟨rfl,rfl,trivial⟩
   | exact⟨rfl,trivial⟩
   | exact trivial
   | (exfalso;clear kc;lia)
   | (clear kc;simp only [List.length_cons,List.length_nil];lia)
   | trace_state
 ·by_cases hv:r.Ok
  ·obtain⟨e1,e2⟩:=val_yes (show valO d x=some r by rw[hval,okBv,if_pos ⟨rfl,hv⟩])
   rw[← hQ] at e1;rw[← hT] at e2
   subst e1;subst e2
   have kr:=rcheck2_ok hv
   clear hval hT hv hQ
   obtain⟨k,t,n,l⟩:=x
   obtain⟨r1,r2,r3,r4,r5⟩:=Q
   refine go (fn:=Proofs.Tryz.f122) (n:=21) (rv:=[ResultVar.cell 4 92,ResultVar.tmp 5]) rfl (by decide) rfl (by decide +kernel) rfl rfl (by simp) fun F L C=>?_
   cbv
   (repeat' first|(refine CallThen.mk _ _ (C.fn (kc)) ?_;cbv)|(refine CallThen.mk _ _ (C.fn (kr)) ?_;cbv)|(refine Br.t ?_ ?_;(focus first|assumption|lia);cbv)|(refine R0 ?_;cbv))
   all_goals first
    | exact⟨rfl,rfl,rfl,rfl,rfl,rfl,trivial⟩
    | exact⟨rfl,rfl,trivial⟩
    | exact⟨rfl,trivial⟩
    | exact trivial
    | (exfalso;clear kc kr;lia)
    | (clear kc kr;simp only [List.length_cons,List.length_nil];lia)
    | trace_state
  ·obtain⟨e1,e2⟩:=val_no (show valO d x=none by rw[hval,okB_bad hv])
   rw[← hQ] at e1;rw[← hT] at e2
   subst e1;subst e2
   obtain⟨e,he,kr⟩:=rcheck2_bad hv
   clear hval hQ hT hv
   obtain⟨k,t,n,l⟩:=x
   obtain⟨r1,r2,r3,r4,r5⟩:=r
   refine go (fn:=Proofs.Tryz.f122) (n:=21) (rv:=[ResultVar.cell 4 92,ResultVar.tmp 5]) rfl (by decide) rfl (by decide +kernel) rfl rfl (by simp) fun F L C=>?_
   cbv
   (repeat' first|(refine CallThen.mk _ _ (C.fn (kc)) ?_;cbv)|(refine CallThen.mk _ _ (C.fn (kr)) ?_;cbv)|(refine Br.f ?_ ?_;(focus first|assumption|lia);cbv)|(refine R0 ?_;cbv))
   all_goals first
    | exact⟨rfl,rfl,rfl,rfl,rfl,rfl,trivial⟩
    | exact⟨rfl,rfl,trivial⟩
    | exact⟨rfl,trivial⟩
    | exact trivial
    | (exfalso;clear kc kr;lia)
    | (clear kc kr;simp only [List.length_cons,List.length_nil];lia)
    | trace_state
noncomputable def chkE (x:Nd):Int:=if deepB 8 x=true then 13 else if madeD x=true then 0 else 1
theorem chkE_ok {x:Nd}:chkE x=0 ↔ deepB 8 x=false∧Made x:=by
 unfold chkE
 cases h:deepB 8 x
 ·simp only [Bool.false_eq_true,if_false,true_and,← madeD_iff]
  split<;>simp_all
 ·simp
theorem echeck_fn (O:Opq) {x:Nd} (hx:NdS x):Fn prog 108 [.agg (x.en O)] [] [.int .i64 (chkE x)] []:=by
 have k1:=edeep_fn O 8 (by omega) x hx.b 8 rfl
 have k2:=epure_fn O hx
 rw[show O.o (deepB 8) x=deepB 8 x by rw[O.h]] at k1
 rw[show O.o madeD x=madeD x by rw[O.h]] at k2
 have hQ:chkE x=if deepB 8 x=true then 13 else if madeD x=true then 0 else 1:=rfl
 obtain⟨Q,eQ⟩:∃ Q,Q=chkE x:=⟨_,rfl⟩
 obtain⟨D,eD⟩:∃ Q,Q=deepB 8 x:=⟨_,rfl⟩
 obtain⟨M,eM⟩:∃ Q,Q=madeD x:=⟨_,rfl⟩
 rw[← eD] at k1 hQ
 rw[← eM] at k2 hQ
 rw[← eQ] at hQ ⊢
 clear eQ eD eM hx
 obtain⟨k,t,n,l⟩:=x
 cases D<;>cases M
 all_goals
  (try rw[if_neg (by decide)] at hQ)
  (try rw[if_pos (by decide)] at hQ)
  (try rw[if_neg (by decide)] at hQ)
  subst hQ
  refine go (fn:=Proofs.Tryz.f108) (n:=9) (rv:=[ResultVar.tmp 2]) rfl (by decide) rfl (by decide +kernel) rfl rfl (by simp) fun F L C=>?_
  cbv
  (repeat' first|(refine CallThen.mk _ _ (C.fn (k1)) ?_;cbv)|(refine CallThen.mk _ _ (C.fn (k2)) ?_;cbv)|(refine R0 ?_;cbv))
  all_goals first
   | exact⟨rfl,trivial⟩
   | (exfalso;clear k1 k2;lia)
   | trace_state
noncomputable def evO (d:Doc) (x:Nd):Option Val:=if chkE x=0 then(if may d=true then valO d x else none) else none
noncomputable def evV (d:Doc) (x:Nd):Val:=(evO d x).getD zeroV
noncomputable def evB (d:Doc) (x:Nd):Bool:=(evO d x).isSome
theorem ev_no {d:Doc} {x:Nd} (h:evO d x=none):evV d x=zeroV∧evB d x=false:=by rw[evV,evB,h];exact⟨rfl,rfl⟩
theorem ev_val {d:Doc} {x:Nd} (h:chkE x=0) (k:may d=true):evV d x=valV d x∧evB d x=valB d x:=by rw[evV,evB,evO,if_pos h,if_pos k];exact⟨rfl,rfl⟩
theorem evO_ok {d:Doc} {x:Nd} {v:Val} (h:evO d x=some v):v.Ok:=by
 unfold evO at h
 split at h
 ·split at h
  ·exact valO_ok h
  ·cases h
 ·cases h
theorem eeval_fn (O:Opq) (d:Doc) (hd:d.length≤1099511627776)  {x:Nd} (hx:NdS x):Fn prog 76 [.agg (x.en O),.sl false 0 false 6 (O.o Doc.enc d)] [] [.agg (Val.enc (O.o (evV d) x)),.bool (O.o (evB d) x)] []:=by
 rw[O.h (evV d),O.h (evB d)]
 obtain⟨Q,hQ⟩:∃ Q,Q=evV d x:=⟨_,rfl⟩
 obtain⟨T,hT⟩:∃ T,T=evB d x:=⟨_,rfl⟩
 rw[← hQ,← hT]
 have k1:=echeck_fn O hx
 by_cases h1:chkE x=0
 ·rw[h1] at k1
  have k2:=check_fn O d hd;rw[show O.o docErr d=docErr d by rw[O.h]] at k2
  by_cases h2:may d=true
  ·obtain⟨e1,e2⟩:=ev_val h1 h2
   have k3:=valueX_fn O d hd (chkE_ok.1 h1).2
   rw[O.h (valV d),O.h (valB d),← e1,← e2,← hQ,← hT] at k3
   rw[show docErr d=0 by rw[docErr,if_pos h2]] at k2
   clear e1 e2 h1 h2 hx hQ hT
   obtain⟨k,t,n,l⟩:=x
   obtain⟨q1,q2,q3,q4,q5⟩:=Q
   refine go (fn:=Proofs.Tryz.f76) (n:=18) (rv:=[ResultVar.cell 4 92,ResultVar.tmp 5]) rfl (by decide) rfl (by decide +kernel) rfl rfl (by simp) fun F L C=>?_
   cbv
   (repeat' first|(refine CallThen.mk _ _ (C.fn (k1)) ?_;cbv)|(refine CallThen.mk _ _ (C.fn (k2)) ?_;cbv)|(refine CallThen.mk _ _ (C.fn (k3)) ?_;cbv)|(refine Br.t ?_ ?_;(focus first|assumption|lia);cbv)|(refine R0 ?_;cbv))
   all_goals first
    | exact⟨rfl,rfl,rfl,rfl,rfl,rfl,trivial⟩
    | (exfalso;clear k1 k2 k3;lia)
    | trace_state
  ·obtain⟨e1,e2⟩:=ev_no (d:=d) (x:=x) (by rw[evO,if_pos h1,if_neg h2])
   rw[← hQ] at e1;rw[← hT] at e2
   subst e1;subst e2
   rw[show docErr d=1 by rw[docErr,if_neg h2]] at k2
   clear h1 h2 hx hQ hT
   obtain⟨k,t,n,l⟩:=x
   refine go (fn:=Proofs.Tryz.f76) (n:=18) (rv:=[ResultVar.cell 4 92,ResultVar.tmp 5]) rfl (by decide) rfl (by decide +kernel) rfl rfl (by simp) fun F L C=>?_
   cbv
   (repeat' first|(refine CallThen.mk _ _ (C.fn (k1)) ?_;cbv)|(refine CallThen.mk _ _ (C.fn (k2)) ?_;cbv)|(refine Br.t ?_ ?_;(focus first|assumption|lia);cbv)|(refine Br.f ?_ ?_;(focus first|assumption|lia);cbv)|(refine R0 ?_;cbv))
   all_goals first
    | exact⟨rfl,rfl,rfl,rfl,rfl,rfl,trivial⟩
    | exact⟨rfl,trivial⟩
    | exact trivial
    | (exfalso;clear k1 k2;lia)
    | trace_state
 ·obtain⟨e1,e2⟩:=ev_no (d:=d) (x:=x) (by rw[evO,if_neg h1])
  rw[← hQ] at e1;rw[← hT] at e2
  subst e1;subst e2
  obtain⟨E,hE⟩:∃ E,E=chkE x:=⟨_,rfl⟩
  rw[← hE] at k1 h1
  clear hx hQ hT hE
  obtain⟨k,t,n,l⟩:=x
  refine go (fn:=Proofs.Tryz.f76) (n:=18) (rv:=[ResultVar.cell 4 92,ResultVar.tmp 5]) rfl (by decide) rfl (by decide +kernel) rfl rfl (by simp) fun F L C=>?_
  cbv
  (repeat' first|(refine CallThen.mk _ _ (C.fn (k1)) ?_;cbv)|(refine Br.f ?_ ?_;(focus first|assumption|lia);cbv)|(refine R0 ?_;cbv))
  all_goals first
   | exact⟨rfl,rfl,rfl,rfl,rfl,rfl,trivial⟩
   | exact⟨rfl,trivial⟩
   | exact trivial
   | (exfalso;clear k1;lia)
   | trace_state
set_option maxHeartbeats 4000000 in
theorem rmade_fn (O:Opq) {x:Nd} (hx:NdS x):Fn prog 146 [.agg (x.en O)] [] [.bool (O.o madeD x)] []:=by
  induction hx with
  | @mk k t n l hl ht _ ih =>
  have k1:=rpath_fn O (O.o ofL t) (by rw[O.h,size_ofL];omega)
  rw[show O.o isPath (O.o ofL t)=pathL t by simp only [O.h];exact isPath_L t] at k1
  have k2:=rplain_fn O t (by omega)
  have k3:=rname_fn O t
  rw[show O.o plainL t=plainL t by rw[O.h]] at k2
  rw[show O.o nameL t=nameL t by rw[O.h]] at k3
  have hQ:madeD (.mk k t n l)=true ↔ madeB (.mk k t n l)=true∧l.any nmade=false:=madeD_iff.trans made_iff
  rw[madeB_iff] at hQ
  have hE:O.o ofL t=ByteArray.empty ↔ t=[]:=by rw[O.h];exact ofL_emp
  have hlen:=Nds.en_len O l
  rw[O.h madeD]
  obtain⟨Q,eQ⟩:∃ Q,Q=madeD (.mk k t n l):=⟨_,rfl⟩
  obtain⟨Pq,eP⟩:∃ Q,Q=pathL t:=⟨_,rfl⟩
  obtain⟨Lq,eL⟩:∃ Q,Q=plainL t:=⟨_,rfl⟩
  obtain⟨Mq,eM⟩:∃ Q,Q=nameL t:=⟨_,rfl⟩
  obtain⟨T,eT⟩:∃ Q,Q=O.o ofL t:=⟨_,rfl⟩
  obtain⟨N,eN⟩:∃ N,N=l.length:=⟨_,rfl⟩
  obtain⟨z,hz⟩:∃ z:Nat,z=0:=⟨_,rfl⟩
  rw[← eQ] at hQ ⊢
  rw[← eP] at hQ k1
  rw[← eL] at hQ k2
  rw[← eM] at hQ k3
  rw[← eT] at hE k1 k2 k3
  rw[← eN] at hlen hQ hl
  rw[← hE] at hQ
  have hno:∀ (i:Nat) a,l[i]?=some a→madeD a=false→Q=false:=fun i a ha h=>by
    cases Q with
    | false=>rfl
    | true =>
      have:=List.any_eq_false.1 (hQ.1 rfl).2 a (List.mem_of_getElem? ha)
      simp [nmade,h] at this
  have hall:(∀ (i:Nat) a,i<N→l[i]?=some a→madeD a=true)→l.any nmade=false:=fun h=>by
    rw[List.any_eq_false]
    intro a ha
    obtain⟨i,hi,rfl⟩:=List.getElem_of_mem ha
    simp [nmade,h i _ (by omega) (List.getElem?_eq_getElem hi)]
  clear eQ eP eL eM hE ht
  show Fn prog 146 [.agg [.int .i64 k,.str (O.o ofL t),.int .i64 n,.sl false 0 false 4 (O.o Nds.enc l)]] [] [.bool Q] []
  rw[← eT]
  clear eT
  refine go (fn:=Proofs.Tryz.f146) (n:=91) (rv:=[ResultVar.tmp 2]) rfl (by decide) rfl (by decide +kernel) rfl rfl (by simp) fun F L C=>?_
  cbv
  skip
  refine LoopThen.mk (C.loopAt (ι:=Nat) [(2,3),(5,18)] (fun i=>[(3,.int .i64 i)]) (fun _=>[(192,.box [.int .i64 k,.str T,.int .i64 n,.sl false 0 false 4 (O.o Nds.enc l)])])
    (fun i=>i≤N∧∀ (j:Nat) a,j<i→l[j]?=some a→madeD a=true) (fun i=>N-i) (by decide +kernel) (Start.mk z [] [] ⟨by omega,fun j a hj=>by omega⟩ ?_) ?_)
  · clear hno hall hQ k1 k2 k3 ih
    cbv
    (repeat' apply And.intro)<;>first|exact True.intro|exact WkR.refl _|rfl|lia|trace_state
  intro i g
  cbv
  have g1:i≤N:=g.1
  have g2:∀ (j:Nat) a,j<i→l[j]?=some a→madeD a=true:=g.2
  clear g
  by_cases hi:i<N
  · obtain⟨a,ha⟩:∃ a,l[i]?=some a:=⟨l[i]'(by omega),List.getElem?_eq_getElem (by omega)⟩
    have hc:=ih a (List.mem_of_getElem? ha)
    rw[O.h madeD] at hc
    have hno:=hno i a ha
    have hst:madeD a=true→∀ (j:Nat) b,j<i+1→l[j]?=some b→madeD b=true:=fun h j b hj hb=>by
      by_cases e:j=i
      · subst e;rw[ha] at hb;cases hb;exact h
      · exact g2 j b (by omega) hb
    obtain⟨B,eB⟩:∃ B,B=madeD a:=⟨_,rfl⟩
    rw[← eB] at hc hno hst
    clear g2 ih hall hQ eB k1 k2 k3
    obtain⟨ak,at',an,al⟩:=a
    cases B
    · have hQ:=hno rfl
      subst hQ
      clear hst hno
      (repeat' first|(refine Ex.nd O ha ?_ ?_;(focus(clear hc;lia));cbv)|(refine CallThen.mk _ _ (C.fn (hc)) ?_;cbv)|(refine Nm fun _ _=>?_;cbv)|(refine Br.t ?_ ?_;(focus first|assumption|lia);cbv)|(refine R0 ?_;cbv))
      all_goals first
        | exact⟨rfl,trivial⟩
        | (exfalso;clear hc;lia)
        | trace_state
    · have hst:=hst rfl
      clear hno
      (repeat' first|(refine Na ?_ fun _ _=>?_;(focus lia);cbv)|(refine Ex.nd O ha ?_ ?_;(focus(clear hc hst;lia));cbv)|(refine CallThen.mk _ _ (C.fn (hc)) ?_;cbv)|(refine Back.up [] [] ?_ ?_ fun _ _=>?_;rotate_left 2;cbv;refine And.intro ?_ ?_)|(refine Nm fun _ _=>?_;cbv)|(refine Br.t ?_ ?_;(focus first|assumption|lia);cbv))
      all_goals(repeat' apply And.intro)
      all_goals first
        | exact True.intro
        | exact WkR.refl _
        | rfl
        | exact hst
        | (clear hc hst;lia)
        | trace_state
  · have hC:=hall fun j a hj=>g2 j a (by omega)
    rw[hC] at hQ
    clear hno hall g2 ih hC
    cases Q
    · have hQ:¬ ((k=1∧n=0∧N=0∧Pq=true∧Lq=false)∨(k=2∧0≤n∧n<1000000000000000∧N=0∧T=ByteArray.empty)∨((k=3∨k=4)∧n=0∧N=2∧T=ByteArray.empty)∨(k=5∧n=0∧N=1∧Mq=true)):=fun h=>by cases hQ.2 ⟨h,rfl⟩
      (repeat' first|(refine CallThen.bool (C.fn (k1)) (fun _=>?_) (fun _=>?_)<;>cbv)|(refine CallThen.bool (C.fn (k2)) (fun _=>?_) (fun _=>?_)<;>cbv)|(refine CallThen.bool (C.fn (k3)) (fun _=>?_) (fun _=>?_)<;>cbv)|(refine Nm fun _ _=>?_;cbv)|(refine Br.f ?_ ?_;(focus first|assumption|lia);cbv)|(refine Br.mk (fun _=>?_) (fun _=>?_)<;>cbv)|(refine R0 ?_;cbv))
      all_goals first
        | exact⟨rfl,trivial⟩
        | (exfalso;clear k1 k2 k3;(try simp only [emp] at *);grind)
        | (exfalso; have hN0 : N = 0 := by (clear k1 k2 k3 hQ; lia)
           exact hQ (.inl ⟨by assumption,by assumption,hN0,by assumption,by assumption⟩))
        | (exfalso; have hN0 : N = 1 := by (clear k1 k2 k3 hQ; lia)
           exact hQ (.inr (.inr (.inr ⟨by assumption,by assumption,hN0,by assumption⟩))))
        | trace_state
    · have hQ:=(hQ.1 rfl).1
      (repeat' first|(refine CallThen.bool (C.fn (k1)) (fun _=>?_) (fun _=>?_)<;>cbv)|(refine CallThen.bool (C.fn (k2)) (fun _=>?_) (fun _=>?_)<;>cbv)|(refine CallThen.bool (C.fn (k3)) (fun _=>?_) (fun _=>?_)<;>cbv)|(refine Nm fun _ _=>?_;cbv)|(refine Br.t ?_ ?_;(focus first|assumption|lia);cbv)|(refine Br.f ?_ ?_;(focus first|assumption|lia);cbv)|(refine Br.mk (fun _=>?_) (fun _=>?_)<;>cbv)|(refine R0 ?_;cbv))
      all_goals first
        | exact⟨rfl,trivial⟩
        | (exfalso;clear k1 k2 k3;(try simp only [emp] at *);grind)
        | trace_state
theorem rcheck10_fn (O:Opq) {x:Nd} (hx:NdS x):Fn prog 121 [.agg (x.en O)] [] [.int .i64 (chkE x)] []:=by
 have k1:=rdepthX_fn O 9 (by omega) x hx.b 9 rfl
 have k2:=rmade_fn O hx
 rw[show O.o (depthI 9) x=depthI 9 x by rw[O.h]] at k1
 rw[show O.o madeD x=madeD x by rw[O.h]] at k2
 have hQ:chkE x=if deepB 8 x=true then 13 else if madeD x=true then 0 else 1:=rfl
 have hD:=deep_I x
 obtain⟨Q,eQ⟩:∃ Q,Q=chkE x:=⟨_,rfl⟩
 obtain⟨D,eD⟩:∃ Q,Q=deepB 8 x:=⟨_,rfl⟩
 obtain⟨M,eM⟩:∃ Q,Q=madeD x:=⟨_,rfl⟩
 obtain⟨I,eI⟩:∃ I,I=depthI 9 x:=⟨_,rfl⟩
 rw[← eI] at k1 hD
 rw[← eD] at hQ hD
 rw[← eM] at k2 hQ
 rw[← eQ] at hQ ⊢
 clear eQ eD eM eI hx
 obtain⟨k,t,n,l⟩:=x
 cases D<;>cases M
 all_goals
  (try rw[if_neg (by decide)] at hQ)
  (try rw[if_pos (by decide)] at hQ)
  (try rw[if_neg (by decide)] at hQ)
  subst hQ
  simp only [Bool.false_eq_true,false_iff,true_iff] at hD
  refine go (fn:=Proofs.Tryz.f121) (n:=8) (rv:=[ResultVar.tmp 2]) rfl (by decide) rfl (by decide +kernel) rfl rfl (by simp) fun F L C=>?_
  cbv
  (repeat' first|(refine CallThen.mk _ _ (C.fn (k1)) ?_;cbv)|(refine CallThen.mk _ _ (C.fn (k2)) ?_;cbv)|(refine Br.t ?_ ?_;(focus first|assumption|lia);cbv)|(refine Br.f ?_ ?_;(focus first|assumption|lia);cbv)|(refine R0 ?_;cbv))
  all_goals first
   | exact⟨rfl,trivial⟩
   | (exfalso;clear k1 k2;lia)
   | trace_state
theorem reval_fn (O:Opq) (d:Doc) (hd:d.length≤1099511627776) (hs:∀ f∈d,f.path.size≤9223372036854775807) {x:Nd} (hx:NdS x):Fn prog 92 [.agg (x.en O),.sl false 0 false 6 (O.o Doc.enc d)] [] [.agg (Val.enc (O.o (evV d) x)),.bool (O.o (evB d) x)] []:=by
 rw[O.h (evV d),O.h (evB d)]
 obtain⟨Q,hQ⟩:∃ Q,Q=evV d x:=⟨_,rfl⟩
 obtain⟨T,hT⟩:∃ T,T=evB d x:=⟨_,rfl⟩
 rw[← hQ,← hT]
 have k1:=rcheck10_fn O hx
 by_cases h1:chkE x=0
 ·rw[h1] at k1
  have k2:=may_fn O d hd hs;rw[show O.o may d=may d by rw[O.h]] at k2
  by_cases h2:may d=true
  ·obtain⟨e1,e2⟩:=ev_val h1 h2
   have k3:=rvalue_fn O d hd (chkE_ok.1 h1).2
   rw[O.h (valV d),O.h (valB d),← e1,← e2,← hQ,← hT] at k3
   rw[h2] at k2
   clear e1 e2 h1 h2 hx hQ hT
   obtain⟨k,t,n,l⟩:=x
   obtain⟨q1,q2,q3,q4,q5⟩:=Q
   refine go (fn:=Proofs.Tryz.f92) (n:=18) (rv:=[ResultVar.cell 4 92,ResultVar.tmp 5]) rfl (by decide) rfl (by decide +kernel) rfl rfl (by simp) fun F L C=>?_
   cbv
   (repeat' first|(refine CallThen.mk _ _ (C.fn (k1)) ?_;cbv)|(refine CallThen.mk _ _ (C.fn (k2)) ?_;cbv)|(refine CallThen.mk _ _ (C.fn (k3)) ?_;cbv)|(refine Br.t ?_ ?_;(focus first|assumption|lia);cbv)|(refine R0 ?_;cbv))
   all_goals first
    | exact⟨rfl,rfl,rfl,rfl,rfl,rfl,trivial⟩
    | (exfalso;clear k1 k2 k3;lia)
    | trace_state
  ·obtain⟨e1,e2⟩:=ev_no (d:=d) (x:=x) (by rw[evO,if_pos h1,if_neg h2])
   rw[← hQ] at e1;rw[← hT] at e2
   subst e1;subst e2
   rw[show may d=false by simpa using h2] at k2
   clear h1 h2 hx hQ hT
   obtain⟨k,t,n,l⟩:=x
   refine go (fn:=Proofs.Tryz.f92) (n:=18) (rv:=[ResultVar.cell 4 92,ResultVar.tmp 5]) rfl (by decide) rfl (by decide +kernel) rfl rfl (by simp) fun F L C=>?_
   cbv
   (repeat' first|(refine CallThen.mk _ _ (C.fn (k1)) ?_;cbv)|(refine CallThen.mk _ _ (C.fn (k2)) ?_;cbv)|(refine Br.t ?_ ?_;(focus first|assumption|lia);cbv)|(refine R0 ?_;cbv))
   all_goals first
    | exact⟨rfl,rfl,rfl,rfl,rfl,rfl,trivial⟩
    | exact⟨rfl,trivial⟩
    | exact trivial
    | (exfalso;clear k1 k2;lia)
    | trace_state
 ·obtain⟨e1,e2⟩:=ev_no (d:=d) (x:=x) (by rw[evO,if_neg h1])
  rw[← hQ] at e1;rw[← hT] at e2
  subst e1;subst e2
  obtain⟨E,hE⟩:∃ E,E=chkE x:=⟨_,rfl⟩
  rw[← hE] at k1 h1
  clear hx hQ hT hE
  obtain⟨k,t,n,l⟩:=x
  refine go (fn:=Proofs.Tryz.f92) (n:=18) (rv:=[ResultVar.cell 4 92,ResultVar.tmp 5]) rfl (by decide) rfl (by decide +kernel) rfl rfl (by simp) fun F L C=>?_
  cbv
  (repeat' first|(refine CallThen.mk _ _ (C.fn (k1)) ?_;cbv)|(refine Br.f ?_ ?_;(focus first|assumption|lia);cbv)|(refine R0 ?_;cbv))
  all_goals first
   | exact⟨rfl,rfl,rfl,rfl,rfl,rfl,trivial⟩
   | exact⟨rfl,trivial⟩
   | exact trivial
   | (exfalso;clear k1;lia)
   | trace_state
def seqO {α β:Type} (f:α→Option β):List α→Option (List β)
 | []=>some []
 | x::r=>match f x with
  | none=>none
  | some v=>match seqO f r with
   | none=>none
   | some vs=>some (v::vs)
theorem seqO_append {α β:Type} (f:α→Option β):∀ (l:List α) (x:α),seqO f (l++[x])=match seqO f l with
  | none=>none
  | some vs=>(f x).map fun v=>vs++[v]
 | [],x=>by
  rw[List.nil_append,seqO,seqO,seqO]
  cases f x<;>rfl
 | y::l,x=>by
  rw[List.cons_append,seqO,seqO,seqO_append f l x]
  cases f y with
  | none=>rfl
  | some v =>
   cases seqO f l with
   | none=>rfl
   | some vs=>cases f x<;>rfl
theorem seqO_none {α β:Type} {f:α→Option β} {l:List α} {i:Nat} {x:α} (hx:l[i]?=some x) (hn:f x=none):seqO f l=none:=by
 induction l generalizing i with
 | nil=>simp at hx
 | cons y r ih =>
  rw[seqO]
  cases i with
  | zero =>
   simp at hx;subst hx
   rw[hn]
  | succ i =>
   rw[ih (by simpa using hx)]
   cases f y<;>rfl
theorem seqO_len {α β:Type} {f:α→Option β}:∀ {l:List α} {vs:List β},seqO f l=some vs→vs.length=l.length
 | [],vs,h=>by simp [seqO] at h;subst h;rfl
 | x::r,vs,h=>by
  rw[seqO] at h
  split at h
  ·cases h
  ·split at h
   ·cases h
   ·rename_i ws e
    cases h
    simp [seqO_len e]
def seqF {α β:Type} (f:α→Option β) (l:List α) (i:Nat):List β:=(seqO f (l.take i)).getD []
theorem seqF_succ {α β:Type} {f:α→Option β} {l:List α} {i:Nat} {x:α} {v:β} (hx:l[i]?=some x) (h:seqO f (l.take i)=some (seqF f l i)) (hv:f x=some v) :
  seqO f (l.take (i+1))=some (seqF f l (i+1))∧seqF f l (i+1)=seqF f l i++[v]:=by
 have e:seqO f (l.take (i+1))=some (seqF f l i++[v]):=by
  rw[List.take_add_one,hx,Option.toList_some,seqO_append,h,hv];rfl
 have e2:seqF f l (i+1)=seqF f l i++[v]:=by rw[seqF,e];rfl
 exact⟨by rw[e,e2],e2⟩
theorem seqF_zero {α β:Type} (f:α→Option β) (l:List α):seqF f l 0=[]∧seqO f (l.take 0)=some (seqF f l 0):=by
 have:seqO f (l.take 0)=some []:=by rw[List.take_zero,seqO]
 exact⟨by rw[seqF,this];rfl,by rw[seqF,this];rfl⟩
noncomputable def eallO (d:Doc) (l:List Nd):Option (List Val):=if l=[]∨4<l.length then none else seqO (evO d) l
noncomputable def eallL (d:Doc) (l:List Nd):List Val:=(eallO d l).getD []
noncomputable def eallB (d:Doc) (l:List Nd):Bool:=(eallO d l).isSome
theorem eall_no {d:Doc} {l:List Nd} (h:eallO d l=none):eallL d l=[]∧eallB d l=false:=by rw[eallL,eallB,h];exact⟨rfl,rfl⟩
theorem eall_yes {d:Doc} {l:List Nd} {vs:List Val} (h:eallO d l=some vs):eallL d l=vs∧eallB d l=true:=by rw[eallL,eallB,h];exact⟨rfl,rfl⟩
theorem ev_yes {d:Doc} {x:Nd} {v:Val} (h:evO d x=some v):evV d x=v∧evB d x=true:=by rw[evV,evB,h];exact⟨rfl,rfl⟩
theorem eevalall_no (O:Opq) (d:Doc) {l:List Nd} (hl:l.length≤1000000) (hb:l.length=0∨4<l.length):Fn prog 55 [.sl false 0 false 4 (O.o Nds.enc l),.sl false 0 false 6 (O.o Doc.enc d)] [] [.sl false 0 false 5 (O.o Vals.enc (O.o (eallL d) l)),.bool (O.o (eallB d) l)] []:=by
 rw[O.h (eallL d),O.h (eallB d)]
 have hlen:=Nds.en_len O l
 have hx0:eallO d l=none:=by rw[eallO,if_pos];simpa using hb
 obtain⟨e1,e2⟩:=eall_no hx0
 rw[e1,e2,show O.o Vals.enc []=[] by rw[O.h];rfl]
 clear hx0 e1 e2
 refine go (fn:=Proofs.Tryz.f55) (n:=37) (rv:=[ResultVar.tmp 4,ResultVar.tmp 5]) rfl (by decide) rfl (by decide +kernel) rfl rfl (by simp) fun F L C=>?_
 cbv
 (repeat' first|(refine Nm fun _ _=>?_;cbv)|(refine Br.t ?_ ?_;(focus first|assumption|lia);cbv)|(refine Br.mk (fun _=>?_) (fun _=>?_)<;>cbv)|(refine R0 ?_;cbv))
 all_goals first
  | exact⟨rfl,rfl,trivial⟩
  | (exfalso;lia)
  | trace_state
set_option maxHeartbeats 4000000 in
theorem eevalall_in (O:Opq) (d:Doc) (hd:d.length≤1099511627776)  {l:List Nd} (hl:l.length≤1000000) (hx:∀ x∈l,NdS x) (hb:¬ (l.length=0∨4<l.length)):Fn prog 55 [.sl false 0 false 4 (O.o Nds.enc l),.sl false 0 false 6 (O.o Doc.enc d)] [] [.sl false 0 false 5 (O.o Vals.enc (O.o (eallL d) l)),.bool (O.o (eallB d) l)] []:=by
 rw[O.h (eallL d),O.h (eallB d)]
 have ih:∀ x∈l,Fn prog 76 [.agg (x.en O),.sl false 0 false 6 (O.o Doc.enc d)] [] [.agg (Val.enc (O.o (evV d) x)),.bool (O.o (evB d) x)] []:=fun x h=>eeval_fn O d hd (hx x h)
 have hlen:=Nds.en_len O l
 have hdef:¬ (l.length=0∨4<l.length)→eallO d l=seqO (evO d) l:=fun h=>by rw[eallO,if_neg];simpa using h
 have hdef0:(l.length=0∨4<l.length)→eallO d l=none:=fun h=>by rw[eallO,if_pos];simpa using h
 obtain⟨Q,hQ⟩:∃ Q,Q=eallL d l:=⟨_,rfl⟩
 obtain⟨T,hT⟩:∃ T,T=eallB d l:=⟨_,rfl⟩
 rw[← hQ,← hT]
 obtain⟨N,hN⟩:∃ N:Nat,N=l.length:=⟨_,rfl⟩
 rw[← hN] at hdef hdef0 hlen
 obtain⟨R,hR⟩:∃ R:Nat→List (List PV),R=fun i=>Vals.enc (seqF (evO d) l i):=⟨_,rfl⟩
 have hRl:∀ i,i≤N→seqO (evO d) (l.take i)=some (seqF (evO d) l i)→(R i).length=i:=fun i hi h=>by
  rw[hR];show(Vals.enc _).length=i
  rw[Vals.enc_len,seqO_len h,List.length_take];omega
 have hRs:∀ (i:Nat) a v,l[i]?=some a→seqO (evO d) (l.take i)=some (seqF (evO d) l i)→evO d a=some v→R (i+1)=R i++[v.enc]:=fun i a v h1 h2 h3=>by
  rw[hR];show Vals.enc _=Vals.enc _++_
  rw[(seqF_succ h1 h2 h3).2,Vals.enc,Vals.enc,List.map_append];rfl
 obtain⟨z,hz⟩:∃ z:Nat,z=0:=⟨_,rfl⟩
 have hRz:R z=[]:=by rw[hz,hR];show Vals.enc _=_;rw[(seqF_zero (evO d) l).1];rfl
 have h0:seqO (evO d) (l.take z)=some (seqF (evO d) l z):=by rw[hz];exact(seqF_zero (evO d) l).2
 clear hx
 rw[← hN] at hb
 refine go (fn:=Proofs.Tryz.f55) (n:=37) (rv:=[ResultVar.tmp 4,ResultVar.tmp 5]) rfl (by decide) rfl (by decide +kernel) rfl rfl (by simp) fun F L C=>?_
 cbv
 (repeat' first|(refine Nm fun _ _=>?_;cbv)|(refine Br.f ?_ ?_;(focus first|assumption|lia);cbv))
 refine LoopThen.mk (C.loopAt (ι:=Nat) [(4,6),(8,10),(21,37)] (fun i=>[(6,.ref 50),(21,.int .i64 i)]) (fun i=>[(50,.arr 0 none 5 (R i))])
  (fun i=>i≤N∧True∧seqO (evO d) (l.take i)=some (seqF (evO d) l i)) (fun i=>N-i) (by decide +kernel) (Start.mk z [(50,.nil 5)] [] ⟨by omega,by trivial,h0⟩ ?_) ?_)
 ·clear hRs hRl ih hQ hT hdef hdef0
  cbv
  (repeat' apply And.intro)<;>first|exact True.intro|exact WkR.refl _|rfl|(rw[hRz];exact WkR.refl _)|exact hRz|(clear hRz h0;lia)|trace_state
 intro i g
 cbv
 have g1:i≤N:=g.1
 have g3:True:=g.2.1
 have g2:seqO (evO d) (l.take i)=some (seqF (evO d) l i):=g.2.2
 clear g
 clear hRz h0
 by_cases hi:i<N
 ·obtain⟨a,ha⟩:∃ a,l[i]?=some a:=⟨l[i]'(by omega),List.getElem?_eq_getElem (by omega)⟩
  have hc:=ih a (List.mem_of_getElem? ha)
  have hRi:=hRl i g1 g2
  cases hva:evO d a with
  | none =>
   obtain⟨e1,e2⟩:=ev_no hva
   rw[O.h (evV d),O.h (evB d),e1,e2] at hc
   have hx0:eallO d l=none:=by
    by_cases hb:N=0∨4<N
    ·exact hdef0 hb
    ·rw[hdef hb];exact seqO_none ha hva
   obtain⟨e1,e2⟩:=eall_no hx0
   rw[← hQ] at e1;rw[← hT] at e2
   subst e1;subst e2
   have hVe:O.o Vals.enc []=[]:=by rw[O.h];rfl
   rw[hVe]
   clear hQ hT hRs hRl ih hva g2 hx0 hR hdef hdef0 hVe
   obtain⟨ak,at',an,al⟩:=a
   (repeat' first|(refine Ex.nd O ha ?_ ?_;(focus(clear hc;lia));cbv)|(refine CallThen.mk _ _ (C.fn (hc)) ?_;cbv)|(refine Br.t ?_ ?_;(focus first|assumption|lia);cbv)|(refine R0 ?_;cbv))
   all_goals first
    | exact⟨rfl,rfl,trivial⟩
    | exact⟨WkR.refl _,rfl,trivial⟩
    | (exfalso;clear hc;lia)
    | trace_state
  | some v =>
   obtain⟨e1,e2⟩:=ev_yes hva
   rw[O.h (evV d),O.h (evB d),e1,e2] at hc
   have hs:=hRs i a v ha g2 hva
   have hg:=(seqF_succ ha g2 hva).1
   clear hQ hT hRs hRl ih hva g2 hR hdef hdef0
   obtain⟨ak,at',an,al⟩:=a
   obtain⟨v1,v2,v3,v4,v5⟩:=v
   (repeat' first|(refine Na ?_ fun _ _=>?_;(focus lia);cbv)|(refine Ex.nd O ha ?_ ?_;(focus(clear hc hs hg;lia));cbv)|(refine CallThen.mk _ _ (C.fn (hc)) ?_;cbv)|(refine Back.up [(50,.loc 2432)] [] ?_ ?_ fun _ _=>?_;rotate_left 2;cbv;refine And.intro ?_ ?_)|(refine Nl fun _ _ hq=>?_;(try simp only [lenS] at hq);cbv)|(refine Br.t ?_ ?_;(focus first|assumption|lia);cbv)|(refine Need.mk ?_ ?_;rotate_left;cbv))
   all_goals(repeat' apply And.intro)
   all_goals try first
    | exact True.intro
    | exact WkR.refl _
    | rfl
    | exact hg
    | (clear hc hs hg;lia)
   all_goals try
    (rw[hRi];simp only [List.length_cons,List.length_nil];clear hc hs;omega)
   all_goals
    rename_i q hq1 _ _ k' hk'
    rw[hk',hq1]
    exact WkR.of_eq hs
 ·by_cases hb2:N=0∨4<N
  ·have hx0:eallO d l=none:=hdef0 (by omega)
   obtain⟨e1,e2⟩:=eall_no hx0
   rw[← hQ] at e1;rw[← hT] at e2
   subst e1;subst e2
   have hVe:O.o Vals.enc []=[]:=by rw[O.h];rfl
   rw[hVe]
   clear hQ hT hRs hRl ih g2 hx0 hR hdef hdef0 hVe
   (repeat' first|(refine Br.t ?_ ?_;(focus first|assumption|lia);cbv))
   all_goals first
    | exact⟨rfl,rfl,trivial⟩
    | (exfalso;lia)
    | trace_state
  ·have htk:l.take i=l:=List.take_of_length_le (by omega)
   rw[htk] at g2
   have hx0:eallO d l=some (seqF (evO d) l i):=by rw[hdef (by omega),g2]
   obtain⟨e1,e2⟩:=eall_yes hx0
   rw[← hQ] at e1;rw[← hT] at e2
   have hRi:R i=O.o Vals.enc Q:=by rw[e1,O.h,hR]
   subst e2
   clear hQ hT hRs hRl ih g2 hx0 hR hdef hdef0 htk e1
   (repeat' first|(refine RetThen.mk [] [50] ?_;cbv)|(refine Nl fun _ _ hq=>?_;(try simp only [lenS] at hq);cbv)|(refine Br.f ?_ ?_;(focus first|assumption|lia);cbv))
   all_goals first
    | exact⟨WkR.of_eq hRi.symm,rfl,trivial⟩
    | (exfalso;clear hRi;lia)
    | (rename_i q hq1;subst hq1;exact⟨WkR.of_eq hRi.symm,trivial⟩)
    | (rename_i q hq1;subst hq1;exact⟨WkR.of_eq hRi.symm,rfl,trivial⟩)
    | trace_state
theorem eevalall_fn (O:Opq) (d:Doc) (hd:d.length≤1099511627776) {l:List Nd} (hl:l.length≤1000000) (hx:∀ x∈l,NdS x):Fn prog 55 [.sl false 0 false 4 (O.o Nds.enc l),.sl false 0 false 6 (O.o Doc.enc d)] [] [.sl false 0 false 5 (O.o Vals.enc (O.o (eallL d) l)),.bool (O.o (eallB d) l)] []:=by
 by_cases hb:l.length=0∨4<l.length
 ·exact eevalall_no O d hl hb
 ·exact eevalall_in O d hd hl hx hb
set_option maxHeartbeats 4000000 in
theorem revalall_fn (O:Opq) (d:Doc) (hd:d.length≤1099511627776) (hs:∀ f∈d,f.path.size≤9223372036854775807) {l:List Nd} (hl:l.length≤1000000) (hx:∀ x∈l,NdS x) :Fn prog 62 [.sl false 0 false 4 (O.o Nds.enc l),.sl false 0 false 6 (O.o Doc.enc d)] [] [.sl false 0 false 5 (O.o Vals.enc (O.o (eallL d) l)),.bool (O.o (eallB d) l)] []:=by
 rw[O.h (eallL d),O.h (eallB d)]
 have ih:∀ x∈l,Fn prog 92 [.agg (x.en O),.sl false 0 false 6 (O.o Doc.enc d)] [] [.agg (Val.enc (O.o (evV d) x)),.bool (O.o (evB d) x)] []:=fun x h=>reval_fn O d hd hs (hx x h)
 have hlen:=Nds.en_len O l
 have hdef:¬ (l.length=0∨4<l.length)→eallO d l=seqO (evO d) l:=fun h=>by rw[eallO,if_neg];simpa using h
 have hdef0:(l.length=0∨4<l.length)→eallO d l=none:=fun h=>by rw[eallO,if_pos];simpa using h
 obtain⟨Q,hQ⟩:∃ Q,Q=eallL d l:=⟨_,rfl⟩
 obtain⟨T,hT⟩:∃ T,T=eallB d l:=⟨_,rfl⟩
 rw[← hQ,← hT]
 obtain⟨N,hN⟩:∃ N:Nat,N=l.length:=⟨_,rfl⟩
 rw[← hN] at hdef hdef0 hlen
 obtain⟨R,hR⟩:∃ R:Nat→List (List PV),R=fun i=>Vals.enc (seqF (evO d) l i):=⟨_,rfl⟩
 have hRl:∀ i,i≤N→seqO (evO d) (l.take i)=some (seqF (evO d) l i)→(R i).length=i:=fun i hi h=>by
  rw[hR];show(Vals.enc _).length=i
  rw[Vals.enc_len,seqO_len h,List.length_take];omega
 have hRs:∀ (i:Nat) a v,l[i]?=some a→seqO (evO d) (l.take i)=some (seqF (evO d) l i)→evO d a=some v→R (i+1)=R i++[v.enc]:=fun i a v h1 h2 h3=>by
  rw[hR];show Vals.enc _=Vals.enc _++_
  rw[(seqF_succ h1 h2 h3).2,Vals.enc,Vals.enc,List.map_append];rfl
 obtain⟨z,hz⟩:∃ z:Nat,z=0:=⟨_,rfl⟩
 have hRz:R z=[]:=by rw[hz,hR];show Vals.enc _=_;rw[(seqF_zero (evO d) l).1];rfl
 have h0:seqO (evO d) (l.take z)=some (seqF (evO d) l z):=by rw[hz];exact(seqF_zero (evO d) l).2
 clear hx
 skip
 refine go (fn:=Proofs.Tryz.f62) (n:=43) (rv:=[ResultVar.tmp 4,ResultVar.tmp 5]) rfl (by decide) rfl (by decide +kernel) rfl rfl (by simp) fun F L C=>?_
 cbv
 skip
 refine LoopThen.mk (C.loopAt (ι:=Nat) [(4,9),(11,35)] (fun i=>[(6,.ref 50),(10,.top),(7,.int .i64 i)]) (fun i=>[(50,.arr 0 none 5 (R i))])
  (fun i=>i≤N∧i≤5∧seqO (evO d) (l.take i)=some (seqF (evO d) l i)) (fun i=>N-i) (by decide +kernel) (Start.mk z [(50,.loc 768)] [] ⟨by omega,by omega,h0⟩ ?_) ?_)
 ·clear hRs hRl ih hQ hT hdef hdef0
  cbv
  (repeat' apply And.intro)<;>first|exact True.intro|exact WkR.refl _|rfl|(rw[hRz];exact WkR.refl _)|exact hRz|(clear hRz h0;lia)|trace_state
 intro i g
 cbv
 have g1:i≤N:=g.1
 have g3:i≤5:=g.2.1
 have g2:seqO (evO d) (l.take i)=some (seqF (evO d) l i):=g.2.2
 clear g
 clear hRz h0
 by_cases hi:i<N∧i<5
 ·obtain⟨a,ha⟩:∃ a,l[i]?=some a:=⟨l[i]'(by omega),List.getElem?_eq_getElem (by omega)⟩
  have hc:=ih a (List.mem_of_getElem? ha)
  have hRi:=hRl i g1 g2
  cases hva:evO d a with
  | none =>
   obtain⟨e1,e2⟩:=ev_no hva
   rw[O.h (evV d),O.h (evB d),e1,e2] at hc
   have hx0:eallO d l=none:=by
    by_cases hb:N=0∨4<N
    ·exact hdef0 hb
    ·rw[hdef hb];exact seqO_none ha hva
   obtain⟨e1,e2⟩:=eall_no hx0
   rw[← hQ] at e1;rw[← hT] at e2
   subst e1;subst e2
   have hVe:O.o Vals.enc []=[]:=by rw[O.h];rfl
   rw[hVe]
   clear hQ hT hRs hRl ih hva g2 hx0 hR hdef hdef0 hVe
   obtain⟨ak,at',an,al⟩:=a
   (repeat' first|(refine Ex.nd O ha ?_ ?_;(focus(clear hc;lia));cbv)|(refine CallThen.mk _ _ (C.fn (hc)) ?_;cbv)|(refine Nm fun _ _=>?_;cbv)|(refine Br.t ?_ ?_;(focus first|assumption|lia);cbv)|(refine R0 ?_;cbv))
   all_goals first
    | exact⟨rfl,rfl,trivial⟩
    | exact⟨WkR.refl _,rfl,trivial⟩
    | (exfalso;clear hc;lia)
    | trace_state
  | some v =>
   obtain⟨e1,e2⟩:=ev_yes hva
   rw[O.h (evV d),O.h (evB d),e1,e2] at hc
   have hs:=hRs i a v ha g2 hva
   have hg:=(seqF_succ ha g2 hva).1
   clear hQ hT hRs hRl ih hva g2 hR hdef hdef0
   obtain⟨ak,at',an,al⟩:=a
   obtain⟨v1,v2,v3,v4,v5⟩:=v
   (repeat' first|(refine Na ?_ fun _ _=>?_;(focus lia);cbv)|(refine Ex.nd O ha ?_ ?_;(focus(clear hc hs hg;lia));cbv)|(refine CallThen.mk _ _ (C.fn (hc)) ?_;cbv)|(refine Back.up [(50,.loc 2368)] [] ?_ ?_ fun _ _=>?_;rotate_left 2;cbv;refine And.intro ?_ ?_)|(refine Nl fun _ _ hq=>?_;(try simp only [lenS] at hq);cbv)|(refine Nm fun _ _=>?_;cbv)|(refine Br.t ?_ ?_;(focus first|assumption|lia);cbv)|(refine Need.mk ?_ ?_;rotate_left;cbv))
   all_goals(repeat' apply And.intro)
   all_goals try first
    | exact True.intro
    | exact WkR.refl _
    | rfl
    | exact hg
    | (clear hc hs hg;lia)
   all_goals try
    (rw[hRi];simp only [List.length_cons,List.length_nil];clear hc hs;omega)
   all_goals
    rename_i q hq1 _ _ k' hk'
    rw[hk',hq1]
    exact WkR.of_eq hs
 ·by_cases hb2:N=0∨4<N
  ·have hx0:eallO d l=none:=hdef0 (by omega)
   obtain⟨e1,e2⟩:=eall_no hx0
   rw[← hQ] at e1;rw[← hT] at e2
   subst e1;subst e2
   have hVe:O.o Vals.enc []=[]:=by rw[O.h];rfl
   rw[hVe]
   clear hQ hT hRs hRl ih g2 hx0 hR hdef hdef0 hVe
   (repeat' first|(refine Nm fun _ _=>?_;cbv)|(refine Br.t ?_ ?_;(focus first|assumption|lia);cbv)|(refine Br.f ?_ ?_;(focus first|assumption|lia);cbv)|(refine Br.mk (fun _=>?_) (fun _=>?_)<;>cbv)|(refine R0 ?_;cbv))
   all_goals first
    | exact⟨rfl,rfl,trivial⟩
    | (exfalso;lia)
    | trace_state
  ·have htk:l.take i=l:=List.take_of_length_le (by omega)
   rw[htk] at g2
   have hx0:eallO d l=some (seqF (evO d) l i):=by rw[hdef (by omega),g2]
   obtain⟨e1,e2⟩:=eall_yes hx0
   rw[← hQ] at e1;rw[← hT] at e2
   have hRi:R i=O.o Vals.enc Q:=by rw[e1,O.h,hR]
   subst e2
   clear hQ hT hRs hRl ih g2 hx0 hR hdef hdef0 htk e1
   (repeat' first|(refine RetThen.mk [] [50] ?_;cbv)|(refine Nl fun _ _ hq=>?_;(try simp only [lenS] at hq);cbv)|(refine Nm fun _ _=>?_;cbv)|(refine Br.f ?_ ?_;(focus first|assumption|lia);cbv))
   all_goals first
    | exact⟨WkR.of_eq hRi.symm,rfl,trivial⟩
    | (exfalso;clear hRi;lia)
    | (rename_i q hq1;subst hq1;exact⟨WkR.of_eq hRi.symm,trivial⟩)
    | (rename_i q hq1;subst hq1;exact⟨WkR.of_eq hRi.symm,rfl,trivial⟩)
    | trace_state
end Go.Sym
