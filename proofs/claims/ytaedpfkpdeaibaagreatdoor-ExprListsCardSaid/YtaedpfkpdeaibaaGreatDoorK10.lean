/- The reader of expressions: products, sums. -/
import Derived.Test.YtaedpfkpdeaibaaGreatDoorK9
set_option linter.all false
set_option linter.unusedVariables false
set_option linter.unusedSimpArgs false
namespace Go.Sym
open Go Go.Proofs.Tryz
set_option maxRecDepth 100000
theorem prod0_len (n:Nat) (s:List UInt8):(partD lexT n s).2.1.length≤s.length:=(rest_len n).1 s
set_option maxHeartbeats 2000000 in
theorem prod_says {O:Opq} {n:Nat} (ih:∀ m,m≤n→PartSays O m):ProdSays O n:=fun s nest X R B hD hs hnest v hv=>by
 obtain⟨⟨x0,s0,b0⟩,hP⟩:∃ p,partD lexT n s=p:=⟨_,rfl⟩
 have k0:=ih n (Nat.le_refl _) s nest x0 s0 b0 hP hs hnest v hv
 have hl0:=prod0_len n s
 rw[hP] at hl0
 rw[prodD,hP] at hD
 simp only at hD hl0
 have e0:O.o ofL []=ByteArray.empty:=by rw[O.h];rfl
 have step:∀ (m:Nat) (x:Nd) (t:List UInt8),loopP lexT m x t false=(X,R,B)→t.length<m→m≤n→nest+t.length≤256 →
   (∃ m' t' y t2 b2,m=m'+1∧t=42::t'∧t2.length<t.length∧t2.length<m'∧O.o (nextB 42) t=true∧O.o (nextR 42) t=t'∧loopP lexT m' (mulN x y) t2 b2=(X,R,B) ∧
    Fn prog 66 [.ptr 0 0] [.box [.str (O.o ofL t'),.bool false,.int .i64 v]] [.agg (y.en O)] [.box [.str (O.o ofL t2),.bool b2,.int .i64 v]]) ∨
   (O.o (nextB 42) t=false∧O.o (nextR 42) t=t∧X=x∧R=t∧B=false):=by
  intro m x t hL ht hm hn
  by_cases h:∃ t',t=42::t'
  ·obtain⟨t',rfl⟩:=h
   obtain⟨m',rfl⟩:∃ m',m=m'+1:=⟨m-1,by omega⟩
   simp only [List.length_cons] at ht hn
   obtain⟨⟨y,t2,b2⟩,hy⟩:∃ p,partD lexT m' t'=p:=⟨_,rfl⟩
   have hl:=prod0_len m' t'
   rw[hy] at hl
   rw[loopP_star,hy] at hL
   exact .inl ⟨m',t',y,t2,b2,rfl,rfl,by simp only [List.length_cons];simp only at hl;omega,by simp only at hl;omega,by rw[O.h];simp [nextB],by rw[O.h];simp [nextR],hL,ih m' (by omega) t' nest y t2 b2 hy (by omega) (by omega) v hv⟩
  ·rw[loopP_end (fun s' e=>absurd ⟨s',e⟩ h)] at hL
   cases hL
   have hq:nextB 42 R=false∧nextR 42 R=R:=by
    cases R with
    | nil=>exact⟨rfl,rfl⟩
    | cons c r =>
     have hc:¬ c=42:=fun e=>h ⟨r,by rw[e]⟩
     simp [nextB,nextR,hc]
   exact .inr ⟨by rw[O.h];exact hq.1,by rw[O.h];exact hq.2,rfl,rfl,rfl⟩
 have bad:∀ (m:Nat) (x:Nd) (t:List UInt8),loopP lexT m x t true=(X,R,B)→X=x∧R=t∧B=true:=fun m x t hL=>by
  rw[loopP_end (fun _ _=>rfl)] at hL
  cases hL;exact⟨rfl,rfl,rfl⟩
 have hl1:s0.length<n:=by omega
 have hl2:nest+s0.length≤256:=by omega
 clear ih hP
 refine go (fn:=Proofs.Tryz.f41) (n:=20) (rv:=[ResultVar.cell 2 25]) rfl (by decide) rfl (by decide +kernel) rfl rfl (by simp) fun F L C=>?_
 cbv
 (repeat' first|(refine Na ?_ fun _ _=>?_;(focus lia);cbv)|(refine Nl fun _ _ hq=>?_;(try simp only [lenS] at hq);cbv)|(refine Nm fun _ _=>?_;cbv)|(refine Br.t ?_ ?_;(focus first|assumption|lia);cbv)|(refine Br.f ?_ ?_;(focus first|assumption|lia);cbv)|(refine Br.mk (fun _=>?_) (fun _=>?_)<;>cbv)|(refine Need.mk ?_ ?_;rotate_left;cbv)|(refine R0 ?_;cbv))
 refine LoopThen.mk (C.scopeAt (ι:=Nat×Nd×List UInt8×Bool) (l:=0) [(3,20)] (fun y=>[(3,.ptr 320 0)]) (fun y=>[(0,.box [.str (O.o ofL y.2.2.1),.bool y.2.2.2,.int .i64 v]),(256,.box [.int .i64 0,.str ByteArray.empty,.int .i64 0,.nils]),(320,.box [.int .i64 y.2.1.kind,.str (O.o ofL y.2.1.text),.int .i64 y.2.1.num,.sl false 0 false 4 (O.o Nds.enc y.2.1.args)])])
  (fun y=>loopP lexT y.1 y.2.1 y.2.2.1 y.2.2.2=(X,R,B)∧y.2.2.1.length<y.1∧y.1≤n∧nest+y.2.2.1.length≤256) (fun y=>y.2.2.1.length) rfl (by decide +kernel) (by decide +kernel) ?_ ?_)
 ·cbv
  cases b0 with
  | true =>
   obtain⟨rfl,rfl,rfl⟩:=bad _ _ _ hD
   clear step bad
   obtain⟨k,t,nn,l⟩:=X
   (repeat' first|(refine Na ?_ fun _ _=>?_;(focus lia);cbv)|(refine CallThen.mk _ _ (C.fn (k0)) ?_;cbv)|(refine Nl fun _ _ hq=>?_;(try simp only [lenS] at hq);cbv)|(refine Nm fun _ _=>?_;cbv)|(refine Br.t ?_ ?_;(focus first|assumption|lia);cbv)|(refine Br.f ?_ ?_;(focus first|assumption|lia);cbv)|(refine Br.mk (fun _=>?_) (fun _=>?_)<;>cbv)|(refine Need.mk ?_ ?_;rotate_left;cbv)|(refine R0 ?_;cbv))
   all_goals first
    | exact⟨.refl _,trivial⟩
    | trace_state
  | false =>
   have kn:=next_fn O s0 false v 42 42 rfl (by omega)
   rcases step _ _ _ hD hl1 (Nat.le_refl _) hl2 with ⟨m',t',y,t2,b2,rfl,rfl,q1,q2,q3,q4,q5,kp⟩ | ⟨q1,q2,rfl,rfl,rfl⟩
   ·rw[q3,q4] at kn
    clear step bad hD q3 q4
    have htwo:=Nds.two O x0 y
    obtain⟨k,t,nn,l⟩:=x0
    obtain⟨k',t',nn',l'⟩:=y
    (repeat' first|(refine Na ?_ fun _ _=>?_;(focus lia);cbv)|(refine CallThen.mk _ _ (C.fn (k0)) ?_;cbv)|(refine CallThen.mk _ _ (C.fn (kn)) ?_;cbv)|(refine CallThen.mk _ _ (C.fn (kp)) ?_;cbv)|(refine Nl fun _ _ hq=>?_;(try simp only [lenS] at hq);cbv)|(refine Nm fun _ _=>?_;cbv)|(refine Br.t ?_ ?_;(focus first|assumption|lia);cbv)|(refine Br.f ?_ ?_;(focus first|assumption|lia);cbv)|(refine Br.mk (fun _=>?_) (fun _=>?_)<;>cbv)|(refine Need.mk ?_ ?_;rotate_left;cbv)|(refine R0 ?_;cbv))
    refine Start.mk (m',mulN (.mk k t nn l) (.mk k' t' nn' l'),t2,b2) [] [1280] ⟨q5,q2,by show m'≤m'+1;omega,by show nest+t2.length≤256;omega⟩ ?_
    cbv
    (repeat' apply And.intro)<;>try first|exact True.intro|exact WkR.refl _|rfl|exact e0|exact e0.symm
    refine Nm fun rs e=>⟨?_,?_⟩
    ·exact .of_eq (htwo.trans e.symm)
    ·cbv
   ·rw[q1,q2] at kn
    clear step bad hD
    obtain⟨k,t,nn,l⟩:=X
    (repeat' first|(refine Na ?_ fun _ _=>?_;(focus lia);cbv)|(refine CallThen.mk _ _ (C.fn (k0)) ?_;cbv)|(refine CallThen.mk _ _ (C.fn (kn)) ?_;cbv)|(refine Nl fun _ _ hq=>?_;(try simp only [lenS] at hq);cbv)|(refine Nm fun _ _=>?_;cbv)|(refine Br.t ?_ ?_;(focus first|assumption|lia);cbv)|(refine Br.f ?_ ?_;(focus first|assumption|lia);cbv)|(refine Br.mk (fun _=>?_) (fun _=>?_)<;>cbv)|(refine Need.mk ?_ ?_;rotate_left;cbv)|(refine R0 ?_;cbv))
    all_goals first
     | exact⟨.refl _,trivial⟩
     | trace_state
 ·intro z g
  cbv
  obtain⟨m,x,t,bb⟩:=z
  have g1:loopP lexT m x t bb=(X,R,B):=g.1
  have g2:t.length<m:=g.2.1
  have g3:m≤n:=g.2.2.1
  have g4:nest+t.length≤256:=g.2.2.2
  clear g k0 hD
  cases bb with
  | true =>
   obtain⟨rfl,rfl,rfl⟩:=bad _ _ _ g1
   clear step bad
   obtain⟨k,t,nn,l⟩:=X
   (repeat' first|(refine Na ?_ fun _ _=>?_;(focus lia);cbv)|(refine Nl fun _ _ hq=>?_;(try simp only [lenS] at hq);cbv)|(refine Nm fun _ _=>?_;cbv)|(refine Br.t ?_ ?_;(focus first|assumption|lia);cbv)|(refine Br.f ?_ ?_;(focus first|assumption|lia);cbv)|(refine Br.mk (fun _=>?_) (fun _=>?_)<;>cbv)|(refine Need.mk ?_ ?_;rotate_left;cbv)|(refine R0 ?_;cbv))
   all_goals first
    | exact⟨.refl _,trivial⟩
    | trace_state
  | false =>
   have kn:=next_fn O t false v 42 42 rfl (by omega)
   rcases step _ _ _ g1 g2 g3 g4 with ⟨m',t',y,t2,b2,rfl,rfl,q1,q2,q3,q4,q5,kp⟩ | ⟨q1,q2,rfl,rfl,rfl⟩
   ·rw[q3,q4] at kn
    clear step bad g1 q3 q4
    have htwo:=Nds.two O x y
    obtain⟨k,t,nn,l⟩:=x
    obtain⟨k',tt,nn',l'⟩:=y
    (repeat' first|(refine Na ?_ fun _ _=>?_;(focus lia);cbv)|(refine CallThen.mk _ _ (C.fn (kn)) ?_;cbv)|(refine CallThen.mk _ _ (C.fn (kp)) ?_;cbv)|(refine Nl fun _ _ hq=>?_;(try simp only [lenS] at hq);cbv)|(refine Nm fun _ _=>?_;cbv)|(refine Br.t ?_ ?_;(focus first|assumption|lia);cbv)|(refine Br.f ?_ ?_;(focus first|assumption|lia);cbv)|(refine Br.mk (fun _=>?_) (fun _=>?_)<;>cbv)|(refine Need.mk ?_ ?_;rotate_left;cbv)|(refine R0 ?_;cbv))
    refine Back.mk (m',mulN (.mk k t nn l) (.mk k' tt nn' l'),t2,b2) [] [1280] ⟨q5,q2,by show m'≤n;omega,by show nest+t2.length≤256;omega⟩ (by show t2.length<(42::t').length;omega) ?_
    cbv
    (repeat' apply And.intro)<;>try first|exact True.intro|exact WkR.refl _|rfl|exact e0|exact e0.symm
    refine Nm fun rs e=>⟨?_,?_⟩
    ·exact .of_eq (htwo.trans e.symm)
    ·cbv
   ·rw[q1,q2] at kn
    clear step bad g1
    obtain⟨k,t,nn,l⟩:=X
    (repeat' first|(refine Na ?_ fun _ _=>?_;(focus lia);cbv)|(refine CallThen.mk _ _ (C.fn (kn)) ?_;cbv)|(refine Nl fun _ _ hq=>?_;(try simp only [lenS] at hq);cbv)|(refine Nm fun _ _=>?_;cbv)|(refine Br.t ?_ ?_;(focus first|assumption|lia);cbv)|(refine Br.f ?_ ?_;(focus first|assumption|lia);cbv)|(refine Br.mk (fun _=>?_) (fun _=>?_)<;>cbv)|(refine Need.mk ?_ ?_;rotate_left;cbv)|(refine R0 ?_;cbv))
    all_goals first
     | exact⟨.refl _,trivial⟩
     | trace_state
theorem prod_len (n:Nat) (s:List UInt8):(prodD lexT n s).2.1.length≤s.length:=by rw[prodD];exact Nat.le_trans ((rest_len n).2.1 _ _ _) ((rest_len n).1 s)
theorem sum0_len (n:Nat) (s:List UInt8):(prodD lexT n s).2.1.length≤s.length:=prod_len n s
set_option maxHeartbeats 2000000 in
theorem sum_says {O:Opq} {n:Nat} (ih:∀ m,m≤n→ProdSays O m):SumSays O n:=fun s nest X R B hD hs hnest v hv=>by
 obtain⟨⟨x0,s0,b0⟩,hP⟩:∃ p,prodD lexT n s=p:=⟨_,rfl⟩
 have k0:=ih n (Nat.le_refl _) s nest x0 s0 b0 hP hs hnest v hv
 have hl0:=sum0_len n s
 rw[hP] at hl0
 rw[sumD,hP] at hD
 simp only at hD hl0
 have e0:O.o ofL []=ByteArray.empty:=by rw[O.h];rfl
 have step:∀ (m:Nat) (x:Nd) (t:List UInt8),loopS lexT m x t false=(X,R,B)→t.length<m→m≤n→nest+t.length≤256 →
   (∃ m' t' y t2 b2,m=m'+1∧t=43::t'∧t2.length<t.length∧t2.length<m'∧O.o (nextB 43) t=true∧O.o (nextR 43) t=t'∧loopS lexT m' (sumN x y) t2 b2=(X,R,B) ∧
    Fn prog 41 [.ptr 0 0] [.box [.str (O.o ofL t'),.bool false,.int .i64 v]] [.agg (y.en O)] [.box [.str (O.o ofL t2),.bool b2,.int .i64 v]]) ∨
   (O.o (nextB 43) t=false∧O.o (nextR 43) t=t∧X=x∧R=t∧B=false):=by
  intro m x t hL ht hm hn
  by_cases h:∃ t',t=43::t'
  ·obtain⟨t',rfl⟩:=h
   obtain⟨m',rfl⟩:∃ m',m=m'+1:=⟨m-1,by omega⟩
   simp only [List.length_cons] at ht hn
   obtain⟨⟨y,t2,b2⟩,hy⟩:∃ p,prodD lexT m' t'=p:=⟨_,rfl⟩
   have hl:=sum0_len m' t'
   rw[hy] at hl
   rw[loopS_plus,hy] at hL
   exact .inl ⟨m',t',y,t2,b2,rfl,rfl,by simp only [List.length_cons];simp only at hl;omega,by simp only at hl;omega,by rw[O.h];simp [nextB],by rw[O.h];simp [nextR],hL,ih m' (by omega) t' nest y t2 b2 hy (by omega) (by omega) v hv⟩
  ·rw[loopS_end (fun s' e=>absurd ⟨s',e⟩ h)] at hL
   cases hL
   have hq:nextB 43 R=false∧nextR 43 R=R:=by
    cases R with
    | nil=>exact⟨rfl,rfl⟩
    | cons c r =>
     have hc:¬ c=43:=fun e=>h ⟨r,by rw[e]⟩
     simp [nextB,nextR,hc]
   exact .inr ⟨by rw[O.h];exact hq.1,by rw[O.h];exact hq.2,rfl,rfl,rfl⟩
 have bad:∀ (m:Nat) (x:Nd) (t:List UInt8),loopS lexT m x t true=(X,R,B)→X=x∧R=t∧B=true:=fun m x t hL=>by
  rw[loopS_end (fun _ _=>rfl)] at hL
  cases hL;exact⟨rfl,rfl,rfl⟩
 have hl1:s0.length<n:=by omega
 have hl2:nest+s0.length≤256:=by omega
 clear ih hP
 refine go (fn:=Proofs.Tryz.f26) (n:=20) (rv:=[ResultVar.cell 2 25]) rfl (by decide) rfl (by decide +kernel) rfl rfl (by simp) fun F L C=>?_
 cbv
 (repeat' first|(refine Na ?_ fun _ _=>?_;(focus lia);cbv)|(refine Nl fun _ _ hq=>?_;(try simp only [lenS] at hq);cbv)|(refine Nm fun _ _=>?_;cbv)|(refine Br.t ?_ ?_;(focus first|assumption|lia);cbv)|(refine Br.f ?_ ?_;(focus first|assumption|lia);cbv)|(refine Br.mk (fun _=>?_) (fun _=>?_)<;>cbv)|(refine Need.mk ?_ ?_;rotate_left;cbv)|(refine R0 ?_;cbv))
 refine LoopThen.mk (C.scopeAt (ι:=Nat×Nd×List UInt8×Bool) (l:=0) [(3,20)] (fun y=>[(3,.ptr 320 0)]) (fun y=>[(0,.box [.str (O.o ofL y.2.2.1),.bool y.2.2.2,.int .i64 v]),(256,.box [.int .i64 0,.str ByteArray.empty,.int .i64 0,.nils]),(320,.box [.int .i64 y.2.1.kind,.str (O.o ofL y.2.1.text),.int .i64 y.2.1.num,.sl false 0 false 4 (O.o Nds.enc y.2.1.args)])])
  (fun y=>loopS lexT y.1 y.2.1 y.2.2.1 y.2.2.2=(X,R,B)∧y.2.2.1.length<y.1∧y.1≤n∧nest+y.2.2.1.length≤256) (fun y=>y.2.2.1.length) rfl (by decide +kernel) (by decide +kernel) ?_ ?_)
 ·cbv
  cases b0 with
  | true =>
   obtain⟨rfl,rfl,rfl⟩:=bad _ _ _ hD
   clear step bad
   obtain⟨k,t,nn,l⟩:=X
   (repeat' first|(refine Na ?_ fun _ _=>?_;(focus lia);cbv)|(refine CallThen.mk _ _ (C.fn (k0)) ?_;cbv)|(refine Nl fun _ _ hq=>?_;(try simp only [lenS] at hq);cbv)|(refine Nm fun _ _=>?_;cbv)|(refine Br.t ?_ ?_;(focus first|assumption|lia);cbv)|(refine Br.f ?_ ?_;(focus first|assumption|lia);cbv)|(refine Br.mk (fun _=>?_) (fun _=>?_)<;>cbv)|(refine Need.mk ?_ ?_;rotate_left;cbv)|(refine R0 ?_;cbv))
   all_goals first
    | exact⟨.refl _,trivial⟩
    | trace_state
  | false =>
   have kn:=next_fn O s0 false v 43 43 rfl (by omega)
   rcases step _ _ _ hD hl1 (Nat.le_refl _) hl2 with ⟨m',t',y,t2,b2,rfl,rfl,q1,q2,q3,q4,q5,kp⟩ | ⟨q1,q2,rfl,rfl,rfl⟩
   ·rw[q3,q4] at kn
    clear step bad hD q3 q4
    have htwo:=Nds.two O x0 y
    obtain⟨k,t,nn,l⟩:=x0
    obtain⟨k',t',nn',l'⟩:=y
    (repeat' first|(refine Na ?_ fun _ _=>?_;(focus lia);cbv)|(refine CallThen.mk _ _ (C.fn (k0)) ?_;cbv)|(refine CallThen.mk _ _ (C.fn (kn)) ?_;cbv)|(refine CallThen.mk _ _ (C.fn (kp)) ?_;cbv)|(refine Nl fun _ _ hq=>?_;(try simp only [lenS] at hq);cbv)|(refine Nm fun _ _=>?_;cbv)|(refine Br.t ?_ ?_;(focus first|assumption|lia);cbv)|(refine Br.f ?_ ?_;(focus first|assumption|lia);cbv)|(refine Br.mk (fun _=>?_) (fun _=>?_)<;>cbv)|(refine Need.mk ?_ ?_;rotate_left;cbv)|(refine R0 ?_;cbv))
    refine Start.mk (m',sumN (.mk k t nn l) (.mk k' t' nn' l'),t2,b2) [] [1280] ⟨q5,q2,by show m'≤m'+1;omega,by show nest+t2.length≤256;omega⟩ ?_
    cbv
    (repeat' apply And.intro)<;>try first|exact True.intro|exact WkR.refl _|rfl|exact e0|exact e0.symm
    refine Nm fun rs e=>⟨?_,?_⟩
    ·exact .of_eq (htwo.trans e.symm)
    ·cbv
   ·rw[q1,q2] at kn
    clear step bad hD
    obtain⟨k,t,nn,l⟩:=X
    (repeat' first|(refine Na ?_ fun _ _=>?_;(focus lia);cbv)|(refine CallThen.mk _ _ (C.fn (k0)) ?_;cbv)|(refine CallThen.mk _ _ (C.fn (kn)) ?_;cbv)|(refine Nl fun _ _ hq=>?_;(try simp only [lenS] at hq);cbv)|(refine Nm fun _ _=>?_;cbv)|(refine Br.t ?_ ?_;(focus first|assumption|lia);cbv)|(refine Br.f ?_ ?_;(focus first|assumption|lia);cbv)|(refine Br.mk (fun _=>?_) (fun _=>?_)<;>cbv)|(refine Need.mk ?_ ?_;rotate_left;cbv)|(refine R0 ?_;cbv))
    all_goals first
     | exact⟨.refl _,trivial⟩
     | trace_state
 ·intro z g
  cbv
  obtain⟨m,x,t,bb⟩:=z
  have g1:loopS lexT m x t bb=(X,R,B):=g.1
  have g2:t.length<m:=g.2.1
  have g3:m≤n:=g.2.2.1
  have g4:nest+t.length≤256:=g.2.2.2
  clear g k0 hD
  cases bb with
  | true =>
   obtain⟨rfl,rfl,rfl⟩:=bad _ _ _ g1
   clear step bad
   obtain⟨k,t,nn,l⟩:=X
   (repeat' first|(refine Na ?_ fun _ _=>?_;(focus lia);cbv)|(refine Nl fun _ _ hq=>?_;(try simp only [lenS] at hq);cbv)|(refine Nm fun _ _=>?_;cbv)|(refine Br.t ?_ ?_;(focus first|assumption|lia);cbv)|(refine Br.f ?_ ?_;(focus first|assumption|lia);cbv)|(refine Br.mk (fun _=>?_) (fun _=>?_)<;>cbv)|(refine Need.mk ?_ ?_;rotate_left;cbv)|(refine R0 ?_;cbv))
   all_goals first
    | exact⟨.refl _,trivial⟩
    | trace_state
  | false =>
   have kn:=next_fn O t false v 43 43 rfl (by omega)
   rcases step _ _ _ g1 g2 g3 g4 with ⟨m',t',y,t2,b2,rfl,rfl,q1,q2,q3,q4,q5,kp⟩ | ⟨q1,q2,rfl,rfl,rfl⟩
   ·rw[q3,q4] at kn
    clear step bad g1 q3 q4
    have htwo:=Nds.two O x y
    obtain⟨k,t,nn,l⟩:=x
    obtain⟨k',tt,nn',l'⟩:=y
    (repeat' first|(refine Na ?_ fun _ _=>?_;(focus lia);cbv)|(refine CallThen.mk _ _ (C.fn (kn)) ?_;cbv)|(refine CallThen.mk _ _ (C.fn (kp)) ?_;cbv)|(refine Nl fun _ _ hq=>?_;(try simp only [lenS] at hq);cbv)|(refine Nm fun _ _=>?_;cbv)|(refine Br.t ?_ ?_;(focus first|assumption|lia);cbv)|(refine Br.f ?_ ?_;(focus first|assumption|lia);cbv)|(refine Br.mk (fun _=>?_) (fun _=>?_)<;>cbv)|(refine Need.mk ?_ ?_;rotate_left;cbv)|(refine R0 ?_;cbv))
    refine Back.mk (m',sumN (.mk k t nn l) (.mk k' tt nn' l'),t2,b2) [] [1280] ⟨q5,q2,by show m'≤n;omega,by show nest+t2.length≤256;omega⟩ (by show t2.length<(43::t').length;omega) ?_
    cbv
    (repeat' apply And.intro)<;>try first|exact True.intro|exact WkR.refl _|rfl|exact e0|exact e0.symm
    refine Nm fun rs e=>⟨?_,?_⟩
    ·exact .of_eq (htwo.trans e.symm)
    ·cbv
   ·rw[q1,q2] at kn
    clear step bad g1
    obtain⟨k,t,nn,l⟩:=X
    (repeat' first|(refine Na ?_ fun _ _=>?_;(focus lia);cbv)|(refine CallThen.mk _ _ (C.fn (kn)) ?_;cbv)|(refine Nl fun _ _ hq=>?_;(try simp only [lenS] at hq);cbv)|(refine Nm fun _ _=>?_;cbv)|(refine Br.t ?_ ?_;(focus first|assumption|lia);cbv)|(refine Br.f ?_ ?_;(focus first|assumption|lia);cbv)|(refine Br.mk (fun _=>?_) (fun _=>?_)<;>cbv)|(refine Need.mk ?_ ?_;rotate_left;cbv)|(refine R0 ?_;cbv))
    all_goals first
     | exact⟨.refl _,trivial⟩
     | trace_state
theorem all_says (O:Opq):∀ n,(PartSays O n∧ProdSays O n∧SumSays O n):=by
 have key:∀ n,∀ m,m≤n→PartSays O m:=by
  intro n
  induction n with
  | zero =>
   intro m hm s nest x r b _ hs
   omega
  | succ n ih =>
   intro m hm
   by_cases hmn:m≤n
   ·exact ih m hmn
   ·have:m=n+1:=by omega
    subst this
    exact part_says (inner_says (sum_says fun j hj=>prod_says fun i hi=>ih i (by omega)))
 exact fun n=>⟨key n n (Nat.le_refl _),prod_says fun m hm=>key n m hm,sum_says fun m hm=>prod_says fun i hi=>key n i (by omega)⟩
inductive NdB (m:Nat):Nd→Prop
 | mk {k:Int} {t:List UInt8} {n:Int} {l:List Nd} (h:l.length≤m) (ih:∀ a∈l,NdB m a):NdB m (.mk k t n l)
theorem NdB.len {m:Nat} {k:Int} {t:List UInt8} {n:Int} {l:List Nd} (h:NdB m (.mk k t n l)):l.length≤m:=by cases h;assumption
theorem NdB.arg {m:Nat} {k:Int} {t:List UInt8} {n:Int} {l:List Nd} (h:NdB m (.mk k t n l)):∀ a∈l,NdB m a:=by cases h;assumption
theorem NdB.nd (e:Xp):NdB 2 e.nd:=by
 induction e with
 | path w=>exact .mk (by simp) (by simp)
 | num n=>exact .mk (by simp) (by simp)
 | sum a b ih jh=>exact .mk (by simp) (fun x hx=>by simp at hx;rcases hx with rfl|rfl<;>assumption)
 | mul a b ih jh=>exact .mk (by simp) (fun x hx=>by simp at hx;rcases hx with rfl|rfl<;>assumption)
 | call w a ih=>exact .mk (by simp) (fun x hx=>by simp at hx;subst hx;assumption)
def findN (p:Nd→Bool) (l:List Nd):Int:=if l.any p=true then(l.findIdx p:Nat) else -1
theorem findN_at {p:Nd→Bool} {l:List Nd} {k:Nat} {x:Nd} (hx:l[k]?=some x) (hp:p x=true) (h:∀ (j:Nat) y,j<k→l[j]?=some y→p y=false):findN p l=k:=by
 have hlt:=(List.getElem?_eq_some_iff.1 hx).1
 rw[findN,if_pos (List.any_eq_true.2 ⟨x,List.mem_of_getElem? hx,hp⟩)]
 refine congrArg _ ((List.findIdx_eq hlt).2 ⟨by rw[(List.getElem?_eq_some_iff.1 hx).2];exact hp,fun j hj=>h j _ hj (by simp)⟩)
theorem findN_no {p:Nd→Bool} {l:List Nd} (h:∀ (j:Nat) y,j<l.length→l[j]?=some y→p y=false):findN p l=-1:=by
 rw[findN,if_neg]
 simp only [List.any_eq_true,not_exists,not_and]
 intro x hx
 obtain⟨j,hj,rfl⟩:=List.getElem_of_mem hx
 have:=h j l[j] hj (by simp)
 simp [this]
theorem findN_ge (p:Nd→Bool) (l:List Nd):(0≤findN p l ↔ l.any p=true):=by
 rw[findN]
 split
 ·rename_i h;simp [h]
 ·rename_i h;simp [h]
theorem deepF_fn {O:Opq} {k:Nat} {x:Nd} {v w:Int} (hv:v=(k:Int)+1) (hw:w=k) (h:Fn prog 27 [.agg (x.en O),.int .i64 w] [] [.bool (O.o (deepB k) x)] []) (hk:k≤100) :
  Fn prog 44 [.agg (x.en O),.ptr 0 0] [.box [.int .i64 v]] [.bool (O.o (deepB k) x)] [.box [.int .i64 v]]:=by
 have hw2:w=IntKind.i64.wrap (v-1):=by rw[wrap64 (by omega)];omega
 obtain⟨B,eB⟩:∃ B,B=O.o (deepB k) x:=⟨_,rfl⟩
 rw[← eB] at h ⊢
 obtain⟨kk,t,n,l⟩:=x
 clear eB
 refine go (fn:=Proofs.Tryz.f44) (n:=6) (rv:=[ResultVar.tmp 3]) rfl (by decide) rfl (by decide +kernel) rfl rfl (by simp) fun F L C=>?_
 cbv
 (repeat' first|(refine Named.at' w hw2 ?_;cbv)|(refine Na ?_ fun _ _=>?_;(focus lia);cbv)|(refine CallThen.mk _ _ (C.fn (h)) ?_;cbv)|(refine Nl fun _ _ hq=>?_;(try simp only [lenS] at hq);cbv)|(refine Nm fun _ _=>?_;cbv)|(refine Br.t ?_ ?_;(focus first|assumption|lia);cbv)|(refine Br.f ?_ ?_;(focus first|assumption|lia);cbv)|(refine Br.mk (fun _=>?_) (fun _=>?_)<;>cbv)|(refine Need.mk ?_ ?_;rotate_left;cbv)|(refine R0 ?_;cbv))
 all_goals first
  | exact⟨rfl,rfl,trivial⟩
  | trace_state
theorem indexN_fn {O:Opq} {k:Nat} {l:List Nd} {v:Int} (hl:l.length≤100000) (hf:∀ x∈l,Fn prog 44 [.agg (x.en O),.ptr 0 0] [.box [.int .i64 v]] [.bool (O.o (deepB k) x)] [.box [.int .i64 v]]) :
  Fn prog 67 [.sl false 0 false 4 (O.o Nds.enc l),.fn 44 [] [.ptr 0 0]] [.box [.int .i64 v]] [.int .i64 (O.o (findN (deepB k)) l)] [.box [.int .i64 v]]:=by
 have hlen:=Nds.en_len O l
 obtain⟨z,hz⟩:∃ z:Nat,z=0:=⟨_,rfl⟩
 obtain⟨N,hN⟩:∃ N:Nat,N=l.length:=⟨_,rfl⟩
 refine go (fn:=Proofs.Tryz.f67) (n:=17) (rv:=[ResultVar.tmp 4]) rfl (by decide) rfl (by decide +kernel) rfl rfl (by simp) fun F L C=>?_
 cbv
 (repeat' first|(refine Na ?_ fun _ _=>?_;(focus lia);cbv)|(refine Nl fun _ _ hq=>?_;(try simp only [lenS] at hq);cbv)|(refine Nm fun _ _=>?_;cbv)|(refine Br.t ?_ ?_;(focus first|assumption|lia);cbv)|(refine Br.f ?_ ?_;(focus first|assumption|lia);cbv)|(refine Br.mk (fun _=>?_) (fun _=>?_)<;>cbv)|(refine Need.mk ?_ ?_;rotate_left;cbv)|(refine R0 ?_;cbv))
 refine LoopThen.mk (C.loopAt (ι:=Nat) [(4,5),(8,18)] (fun k=>[(4,.int .i64 0),(8,.int .i64 k)]) (fun _=>[(0,.box [.int .i64 v])])
  (fun i=>i≤l.length∧∀ (j:Nat) x,j<i→l[j]?=some x→deepB k x=false) (fun i=>N-i) (by decide +kernel) (Start.mk z [] [] ⟨by omega,fun j x hj=>by omega⟩ (by cbv;(repeat' apply And.intro)<;>first|exact True.intro|exact WkR.refl _|rfl|lia)) ?_)
 intro i g
 cbv
 have g1:i≤l.length:=g.1
 have g2:=g.2
 clear g
 by_cases hk:i<l.length
 ·obtain⟨x,hx⟩:∃ x,l[i]?=some x:=⟨l[i],by simp [hk]⟩
  have hc:=hf x (List.mem_of_getElem? hx)
  have hyes:O.o (deepB k) x=true→O.o (findN (deepB k)) l=i:=fun e=>by rw[O.h] at e ⊢;exact findN_at hx e g2
  have hst:O.o (deepB k) x=false→∀ (j:Nat) y,j<i+1→l[j]?=some y→deepB k y=false:=fun h j y hj hy=>by
   by_cases ej:j=i
   ·subst ej;rw[hx] at hy;cases hy;rwa [O.h] at h
   ·exact g2 j y (by omega) hy
  obtain⟨Q,eQ⟩:∃ Q,Q=O.o (findN (deepB k)) l:=⟨_,rfl⟩
  obtain⟨B,eB⟩:∃ B,B=O.o (deepB k) x:=⟨_,rfl⟩
  rw[← eQ] at hyes ⊢
  rw[← eB] at hyes hst hc
  obtain⟨kk,t,n,la⟩:=x
  clear g2 eQ hf eB
  (repeat' first|(refine Na ?_ fun _ _=>?_;(focus lia);cbv)|(refine Ex.nd O hx ?_ ?_;(focus lia);cbv)|(refine CallThen.bool (C.fn (hc)) (fun _=>?_) (fun _=>?_)<;>cbv)|(refine Back.up [] [] ?_ ?_ fun _ _=>?_;rotate_left 2;cbv;refine And.intro ?_ ?_)|(refine Nl fun _ _ hq=>?_;(try simp only [lenS] at hq);cbv)|(refine Nm fun _ _=>?_;cbv)|(refine Br.t ?_ ?_;(focus first|assumption|lia);cbv)|(refine Br.f ?_ ?_;(focus first|assumption|lia);cbv)|(refine Br.mk (fun _=>?_) (fun _=>?_)<;>cbv)|(refine Need.mk ?_ ?_;rotate_left;cbv)|(refine R0 ?_;cbv))
  all_goals(repeat' apply And.intro)
  all_goals try first
   | exact True.intro
   | exact WkR.refl _
   | (clear hx hst hyes hc;lia)
  all_goals first
   | exact hst (by assumption)
   | (rw[hyes (by assumption)];clear hx hst hyes hc;lia)
   | trace_state
 ·have hno:O.o (findN (deepB k)) l=-1:=by rw[O.h];exact findN_no fun j x hj hx=>g2 j x (by omega) hx
  rw[hno]
  clear g2 hf
  (repeat' first|(refine Na ?_ fun _ _=>?_;(focus lia);cbv)|(refine Nl fun _ _ hq=>?_;(try simp only [lenS] at hq);cbv)|(refine Nm fun _ _=>?_;cbv)|(refine Br.t ?_ ?_;(focus first|assumption|lia);cbv)|(refine Br.f ?_ ?_;(focus first|assumption|lia);cbv)|(refine Br.mk (fun _=>?_) (fun _=>?_)<;>cbv)|(refine Need.mk ?_ ?_;rotate_left;cbv)|(refine R0 ?_;cbv))
  all_goals first
   | exact⟨rfl,trivial⟩
   | exact⟨rfl,rfl,trivial⟩
   | (exfalso;lia)
   | trace_state
theorem containsN_fn {O:Opq} {k:Nat} {l:List Nd} {v:Int} (h:Fn prog 67 [.sl false 0 false 4 (O.o Nds.enc l),.fn 44 [] [.ptr 0 0]] [.box [.int .i64 v]] [.int .i64 (O.o (findN (deepB k)) l)] [.box [.int .i64 v]]) :
  Fn prog 43 [.sl false 0 false 4 (O.o Nds.enc l),.fn 44 [] [.ptr 0 0]] [.box [.int .i64 v]] [.bool (O.o (fun l=>l.any (deepB k)) l)] [.box [.int .i64 v]]:=by
 have hi:(0≤O.o (findN (deepB k)) l ↔ O.o (fun l:List Nd=>l.any (deepB k)) l=true):=by rw[O.h,O.h];exact findN_ge _ l
 obtain⟨Q,eQ⟩:∃ Q,Q=O.o (findN (deepB k)) l:=⟨_,rfl⟩
 rw[← eQ] at h hi
 obtain⟨B,eB⟩:∃ Q,Q=O.o (fun l:List Nd=>l.any (deepB k)) l:=⟨_,rfl⟩
 rw[← eB] at hi ⊢
 clear eQ eB
 cases B
 all_goals
  refine go (fn:=Proofs.Tryz.f43) (n:=7) (rv:=[ResultVar.tmp 4]) rfl (by decide) rfl (by decide +kernel) rfl rfl (by simp) fun F L C=>?_
  cbv
  (repeat' first|(refine Na ?_ fun _ _=>?_;(focus lia);cbv)|(refine CallThen.mk _ _ (C.fn (h)) ?_;cbv)|(refine Nl fun _ _ hq=>?_;(try simp only [lenS] at hq);cbv)|(refine Nm fun _ _=>?_;cbv)|(refine Br.t ?_ ?_;(focus first|assumption|lia);cbv)|(refine Br.f ?_ ?_;(focus first|assumption|lia);cbv)|(refine Br.mk (fun _=>?_) (fun _=>?_)<;>cbv)|(refine Need.mk ?_ ?_;rotate_left;cbv)|(refine R0 ?_;cbv))
  all_goals first
   | exact⟨rfl,rfl,trivial⟩
   | (exfalso;simp at hi;clear h;lia)
   | trace_state
theorem edeep_fn (O:Opq):∀ (k:Nat),k≤100→∀ (x:Nd),NdB 100000 x→∀ v:Int,v=k→Fn prog 27 [.agg (x.en O),.int .i64 v] [] [.bool (O.o (deepB k) x)] []
 | 0,_,.mk kk t n l,_,v,hv=>by
  have hq:O.o (deepB 0) (.mk kk t n l)=true:=by rw[O.h];rfl
  rw[hq]
  refine go (fn:=Proofs.Tryz.f27) (n:=11) (rv:=[ResultVar.tmp 4]) rfl (by decide) rfl (by decide +kernel) rfl rfl (by simp) fun F L C=>?_
  cbv
  (repeat' first|(refine Na ?_ fun _ _=>?_;(focus lia);cbv)|(refine Nl fun _ _ hq=>?_;(try simp only [lenS] at hq);cbv)|(refine Nm fun _ _=>?_;cbv)|(refine Br.t ?_ ?_;(focus first|assumption|lia);cbv)|(refine Br.f ?_ ?_;(focus first|assumption|lia);cbv)|(refine Br.mk (fun _=>?_) (fun _=>?_)<;>cbv)|(refine Need.mk ?_ ?_;rotate_left;cbv)|(refine R0 ?_;cbv))
  all_goals first
   | exact⟨rfl,trivial⟩
   | (exfalso;lia)
   | trace_state
 | k+1,hk,.mk kk t n l,hB,v,hv=>by
  have hq:O.o (deepB (k+1)) (.mk kk t n l)=O.o (fun l:List Nd=>l.any (deepB k)) l:=by rw[O.h,O.h];rfl
  rw[hq]
  have hc:=containsN_fn (indexN_fn (O:=O) (k:=k) (v:=v) hB.len fun x hx=>deepF_fn (by omega) rfl (edeep_fn O k (by omega) x (hB.arg x hx) k rfl) (by omega))
  obtain⟨B,eB⟩:∃ Q,Q=O.o (fun l:List Nd=>l.any (deepB k)) l:=⟨_,rfl⟩
  rw[← eB] at hc ⊢
  clear eB hq hB
  refine go (fn:=Proofs.Tryz.f27) (n:=11) (rv:=[ResultVar.tmp 4]) rfl (by decide) rfl (by decide +kernel) rfl rfl (by simp) fun F L C=>?_
  cbv
  (repeat' first|(refine Na ?_ fun _ _=>?_;(focus lia);cbv)|(refine CallThen.mk _ _ (C.fn (hc)) ?_;cbv)|(refine Nl fun _ _ hq=>?_;(try simp only [lenS] at hq);cbv)|(refine Nm fun _ _=>?_;cbv)|(refine Br.t ?_ ?_;(focus first|assumption|lia);cbv)|(refine Br.f ?_ ?_;(focus first|assumption|lia);cbv)|(refine Br.mk (fun _=>?_) (fun _=>?_)<;>cbv)|(refine Need.mk ?_ ?_;rotate_left;cbv)|(refine R0 ?_;cbv))
  all_goals first
   | exact⟨rfl,trivial⟩
   | (exfalso;clear hc;lia)
   | trace_state
end Go.Sym
