/- The reader of expressions: products, sums. -/
import Derived.Test.YtjlefaabcalkkaaGreatDoorK7
set_option linter.all false
set_option linter.unusedVariables false
set_option linter.unusedSimpArgs false
namespace Go.Sym
open Go Go.Proofs.Tryz
set_option maxRecDepth 100000
theorem prod0_len (n:Nat) (s:List UInt8):(partD lexT n s).2.1.length≤s.length:=(rest_len n).1 s
set_option maxHeartbeats 2000000 in
theorem prod_says {O:Opq} {n:Nat} (ih:∀ m,m≤n→PartSays O m):ProdSays O n:=fun s nest X R B hD hs hnest v hv=>by
 obtain⟨⟨x0,s0,b0⟩,hP⟩:∃ p,partD lexT n s=p:=⟨_,rfl⟩
 have k0:=ih n (Nat.le_refl _) s nest x0 s0 b0 hP hs hnest v hv
 have hl0:=prod0_len n s
 rw[hP] at hl0
 rw[prodD,hP] at hD
 simp only at hD hl0
 have e0:O.o ofL []=ByteArray.empty:=by rw[O.h];rfl
 have step:∀ (m:Nat) (x:Nd) (t:List UInt8),loopP lexT m x t false=(X,R,B)→t.length<m→m≤n→nest+t.length≤256 →
   (∃ m' t' y t2 b2,m=m'+1∧t=42::t'∧t2.length<t.length∧t2.length<m'∧O.o (nextB 42) t=true∧O.o (nextR 42) t=t'∧loopP lexT m' (mulN x y) t2 b2=(X,R,B) ∧
    Fn prog 139 [.ptr 0 0] [.box [.str (O.o ofL t'),.bool false,.int .i64 v]] [.agg (y.en O)] [.box [.str (O.o ofL t2),.bool b2,.int .i64 v]]) ∨
   (O.o (nextB 42) t=false∧O.o (nextR 42) t=t∧X=x∧R=t∧B=false):=by
  intro m x t hL ht hm hn
  by_cases h:∃ t',t=42::t'
  ·obtain⟨t',rfl⟩:=h
   obtain⟨m',rfl⟩:∃ m',m=m'+1:=⟨m-1,by omega⟩
   simp only [List.length_cons] at ht hn
   obtain⟨⟨y,t2,b2⟩,hy⟩:∃ p,partD lexT m' t'=p:=⟨_,rfl⟩
   have hl:=prod0_len m' t'
   rw[hy] at hl
   rw[loopP_star,hy] at hL
   exact .inl ⟨m',t',y,t2,b2,rfl,rfl,by simp only [List.length_cons];simp only at hl;omega,by simp only at hl;omega,by rw[O.h];simp [nextB],by rw[O.h];simp [nextR],hL,ih m' (by omega) t' nest y t2 b2 hy (by omega) (by omega) v hv⟩
  ·rw[loopP_end (fun s' e=>absurd ⟨s',e⟩ h)] at hL
   cases hL
   have hq:nextB 42 R=false∧nextR 42 R=R:=by
    cases R with
    | nil=>exact⟨rfl,rfl⟩
    | cons c r =>
     have hc:¬ c=42:=fun e=>h ⟨r,by rw[e]⟩
     simp [nextB,nextR,hc]
   exact .inr ⟨by rw[O.h];exact hq.1,by rw[O.h];exact hq.2,rfl,rfl,rfl⟩
 have bad:∀ (m:Nat) (x:Nd) (t:List UInt8),loopP lexT m x t true=(X,R,B)→X=x∧R=t∧B=true:=fun m x t hL=>by
  rw[loopP_end (fun _ _=>rfl)] at hL
  cases hL;exact⟨rfl,rfl,rfl⟩
 have hl1:s0.length<n:=by omega
 have hl2:nest+s0.length≤256:=by omega
 clear ih hP
 refine go (fn:=Proofs.Tryz.f104) (n:=20) (rv:=[ResultVar.cell 2 103]) rfl (by decide) rfl (by decide +kernel) rfl rfl (by simp) fun F L C=>?_
 cbv
 skip
 refine LoopThen.mk (C.scopeAt (ι:=Nat×Nd×List UInt8×Bool) (l:=0) [(3,20)] (fun y=>[(3,.ptr 320 0)]) (fun y=>[(0,.box [.str (O.o ofL y.2.2.1),.bool y.2.2.2,.int .i64 v]),(256,.box [.int .i64 0,.str ByteArray.empty,.int .i64 0,.nils]),(320,.box [.int .i64 y.2.1.kind,.str (O.o ofL y.2.1.text),.int .i64 y.2.1.num,.sl false 0 false 4 (O.o Nds.enc y.2.1.args)])])
  (fun y=>loopP lexT y.1 y.2.1 y.2.2.1 y.2.2.2=(X,R,B)∧y.2.2.1.length<y.1∧y.1≤n∧nest+y.2.2.1.length≤256) (fun y=>y.2.2.1.length) rfl (by decide +kernel) (by decide +kernel) ?_ ?_)
 ·cbv
  cases b0 with
  | true =>
   obtain⟨rfl,rfl,rfl⟩:=bad _ _ _ hD
   clear step bad
   obtain⟨k,t,nn,l⟩:=X
   (repeat' first|(refine CallThen.mk _ _ (C.fn (k0)) ?_;cbv)|(refine R0 ?_;cbv))
   all_goals first
    | exact⟨.refl _,trivial⟩
    | trace_state
  | false =>
   have kn:=next_fn O s0 false v 42 42 rfl (by omega)
   rcases step _ _ _ hD hl1 (Nat.le_refl _) hl2 with ⟨m',t',y,t2,b2,rfl,rfl,q1,q2,q3,q4,q5,kp⟩ | ⟨q1,q2,rfl,rfl,rfl⟩
   ·rw[q3,q4] at kn
    clear step bad hD q3 q4
    have htwo:=Nds.two O x0 y
    obtain⟨k,t,nn,l⟩:=x0
    obtain⟨k',t',nn',l'⟩:=y
    (repeat' first|(refine CallThen.mk _ _ (C.fn (k0)) ?_;cbv)|(refine CallThen.mk _ _ (C.fn (kn)) ?_;cbv)|(refine CallThen.mk _ _ (C.fn (kp)) ?_;cbv))
    refine Start.mk (m',mulN (.mk k t nn l) (.mk k' t' nn' l'),t2,b2) [] [1280] ⟨q5,q2,by show m'≤m'+1;omega,by show nest+t2.length≤256;omega⟩ ?_
    cbv
    (repeat' apply And.intro)<;>try first|exact True.intro|exact WkR.refl _|rfl|exact e0|exact e0.symm
    refine Nm fun rs e=>⟨?_,?_⟩
    ·exact .of_eq (htwo.trans e.symm)
    ·cbv
   ·rw[q1,q2] at kn
    clear step bad hD
    obtain⟨k,t,nn,l⟩:=X
    (repeat' first|(refine CallThen.mk _ _ (C.fn (k0)) ?_;cbv)|(refine CallThen.mk _ _ (C.fn (kn)) ?_;cbv)|(refine R0 ?_;cbv))
    all_goals first
     | exact⟨.refl _,trivial⟩
     | trace_state
 ·intro z g
  cbv
  obtain⟨m,x,t,bb⟩:=z
  have g1:loopP lexT m x t bb=(X,R,B):=g.1
  have g2:t.length<m:=g.2.1
  have g3:m≤n:=g.2.2.1
  have g4:nest+t.length≤256:=g.2.2.2
  clear g k0 hD
  cases bb with
  | true =>
   obtain⟨rfl,rfl,rfl⟩:=bad _ _ _ g1
   clear step bad
   obtain⟨k,t,nn,l⟩:=X
   (repeat' first|(refine R0 ?_;cbv))
   all_goals first
    | exact⟨.refl _,trivial⟩
    | trace_state
  | false =>
   have kn:=next_fn O t false v 42 42 rfl (by omega)
   rcases step _ _ _ g1 g2 g3 g4 with ⟨m',t',y,t2,b2,rfl,rfl,q1,q2,q3,q4,q5,kp⟩ | ⟨q1,q2,rfl,rfl,rfl⟩
   ·rw[q3,q4] at kn
    clear step bad g1 q3 q4
    have htwo:=Nds.two O x y
    obtain⟨k,t,nn,l⟩:=x
    obtain⟨k',tt,nn',l'⟩:=y
    (repeat' first|(refine CallThen.mk _ _ (C.fn (kn)) ?_;cbv)|(refine CallThen.mk _ _ (C.fn (kp)) ?_;cbv))
    refine Back.mk (m',mulN (.mk k t nn l) (.mk k' tt nn' l'),t2,b2) [] [1280] ⟨q5,q2,by show m'≤n;omega,by show nest+t2.length≤256;omega⟩ (by show t2.length<(42::t').length;omega) ?_
    cbv
    (repeat' apply And.intro)<;>try first|exact True.intro|exact WkR.refl _|rfl|exact e0|exact e0.symm
    refine Nm fun rs e=>⟨?_,?_⟩
    ·exact .of_eq (htwo.trans e.symm)
    ·cbv
   ·rw[q1,q2] at kn
    clear step bad g1
    obtain⟨k,t,nn,l⟩:=X
    (repeat' first|(refine CallThen.mk _ _ (C.fn (kn)) ?_;cbv)|(refine R0 ?_;cbv))
    all_goals first
     | exact⟨.refl _,trivial⟩
     | trace_state
theorem prod_len (n:Nat) (s:List UInt8):(prodD lexT n s).2.1.length≤s.length:=by rw[prodD];exact Nat.le_trans ((rest_len n).2.1 _ _ _) ((rest_len n).1 s)
theorem sum0_len (n:Nat) (s:List UInt8):(prodD lexT n s).2.1.length≤s.length:=prod_len n s
set_option maxHeartbeats 2000000 in
theorem sum_says {O:Opq} {n:Nat} (ih:∀ m,m≤n→ProdSays O m):SumSays O n:=fun s nest X R B hD hs hnest v hv=>by
 obtain⟨⟨x0,s0,b0⟩,hP⟩:∃ p,prodD lexT n s=p:=⟨_,rfl⟩
 have k0:=ih n (Nat.le_refl _) s nest x0 s0 b0 hP hs hnest v hv
 have hl0:=sum0_len n s
 rw[hP] at hl0
 rw[sumD,hP] at hD
 simp only at hD hl0
 have e0:O.o ofL []=ByteArray.empty:=by rw[O.h];rfl
 have step:∀ (m:Nat) (x:Nd) (t:List UInt8),loopS lexT m x t false=(X,R,B)→t.length<m→m≤n→nest+t.length≤256 →
   (∃ m' t' y t2 b2,m=m'+1∧t=43::t'∧t2.length<t.length∧t2.length<m'∧O.o (nextB 43) t=true∧O.o (nextR 43) t=t'∧loopS lexT m' (sumN x y) t2 b2=(X,R,B) ∧
    Fn prog 104 [.ptr 0 0] [.box [.str (O.o ofL t'),.bool false,.int .i64 v]] [.agg (y.en O)] [.box [.str (O.o ofL t2),.bool b2,.int .i64 v]]) ∨
   (O.o (nextB 43) t=false∧O.o (nextR 43) t=t∧X=x∧R=t∧B=false):=by
  intro m x t hL ht hm hn
  by_cases h:∃ t',t=43::t'
  ·obtain⟨t',rfl⟩:=h
   obtain⟨m',rfl⟩:∃ m',m=m'+1:=⟨m-1,by omega⟩
   simp only [List.length_cons] at ht hn
   obtain⟨⟨y,t2,b2⟩,hy⟩:∃ p,prodD lexT m' t'=p:=⟨_,rfl⟩
   have hl:=sum0_len m' t'
   rw[hy] at hl
   rw[loopS_plus,hy] at hL
   exact .inl ⟨m',t',y,t2,b2,rfl,rfl,by simp only [List.length_cons];simp only at hl;omega,by simp only at hl;omega,by rw[O.h];simp [nextB],by rw[O.h];simp [nextR],hL,ih m' (by omega) t' nest y t2 b2 hy (by omega) (by omega) v hv⟩
  ·rw[loopS_end (fun s' e=>absurd ⟨s',e⟩ h)] at hL
   cases hL
   have hq:nextB 43 R=false∧nextR 43 R=R:=by
    cases R with
    | nil=>exact⟨rfl,rfl⟩
    | cons c r =>
     have hc:¬ c=43:=fun e=>h ⟨r,by rw[e]⟩
     simp [nextB,nextR,hc]
   exact .inr ⟨by rw[O.h];exact hq.1,by rw[O.h];exact hq.2,rfl,rfl,rfl⟩
 have bad:∀ (m:Nat) (x:Nd) (t:List UInt8),loopS lexT m x t true=(X,R,B)→X=x∧R=t∧B=true:=fun m x t hL=>by
  rw[loopS_end (fun _ _=>rfl)] at hL
  cases hL;exact⟨rfl,rfl,rfl⟩
 have hl1:s0.length<n:=by omega
 have hl2:nest+s0.length≤256:=by omega
 clear ih hP
 refine go (fn:=Proofs.Tryz.f74) (n:=20) (rv:=[ResultVar.cell 2 103]) rfl (by decide) rfl (by decide +kernel) rfl rfl (by simp) fun F L C=>?_
 cbv
 skip
 refine LoopThen.mk (C.scopeAt (ι:=Nat×Nd×List UInt8×Bool) (l:=0) [(3,20)] (fun y=>[(3,.ptr 320 0)]) (fun y=>[(0,.box [.str (O.o ofL y.2.2.1),.bool y.2.2.2,.int .i64 v]),(256,.box [.int .i64 0,.str ByteArray.empty,.int .i64 0,.nils]),(320,.box [.int .i64 y.2.1.kind,.str (O.o ofL y.2.1.text),.int .i64 y.2.1.num,.sl false 0 false 4 (O.o Nds.enc y.2.1.args)])])
  (fun y=>loopS lexT y.1 y.2.1 y.2.2.1 y.2.2.2=(X,R,B)∧y.2.2.1.length<y.1∧y.1≤n∧nest+y.2.2.1.length≤256) (fun y=>y.2.2.1.length) rfl (by decide +kernel) (by decide +kernel) ?_ ?_)
 ·cbv
  cases b0 with
  | true =>
   obtain⟨rfl,rfl,rfl⟩:=bad _ _ _ hD
   clear step bad
   obtain⟨k,t,nn,l⟩:=X
   (repeat' first|(refine CallThen.mk _ _ (C.fn (k0)) ?_;cbv)|(refine R0 ?_;cbv))
   all_goals first
    | exact⟨.refl _,trivial⟩
    | trace_state
  | false =>
   have kn:=next_fn O s0 false v 43 43 rfl (by omega)
   rcases step _ _ _ hD hl1 (Nat.le_refl _) hl2 with ⟨m',t',y,t2,b2,rfl,rfl,q1,q2,q3,q4,q5,kp⟩ | ⟨q1,q2,rfl,rfl,rfl⟩
   ·rw[q3,q4] at kn
    clear step bad hD q3 q4
    have htwo:=Nds.two O x0 y
    obtain⟨k,t,nn,l⟩:=x0
    obtain⟨k',t',nn',l'⟩:=y
    (repeat' first|(refine CallThen.mk _ _ (C.fn (k0)) ?_;cbv)|(refine CallThen.mk _ _ (C.fn (kn)) ?_;cbv)|(refine CallThen.mk _ _ (C.fn (kp)) ?_;cbv))
    refine Start.mk (m',sumN (.mk k t nn l) (.mk k' t' nn' l'),t2,b2) [] [1280] ⟨q5,q2,by show m'≤m'+1;omega,by show nest+t2.length≤256;omega⟩ ?_
    cbv
    (repeat' apply And.intro)<;>try first|exact True.intro|exact WkR.refl _|rfl|exact e0|exact e0.symm
    refine Nm fun rs e=>⟨?_,?_⟩
    ·exact .of_eq (htwo.trans e.symm)
    ·cbv
   ·rw[q1,q2] at kn
    clear step bad hD
    obtain⟨k,t,nn,l⟩:=X
    (repeat' first|(refine CallThen.mk _ _ (C.fn (k0)) ?_;cbv)|(refine CallThen.mk _ _ (C.fn (kn)) ?_;cbv)|(refine R0 ?_;cbv))
    all_goals first
     | exact⟨.refl _,trivial⟩
     | trace_state
 ·intro z g
  cbv
  obtain⟨m,x,t,bb⟩:=z
  have g1:loopS lexT m x t bb=(X,R,B):=g.1
  have g2:t.length<m:=g.2.1
  have g3:m≤n:=g.2.2.1
  have g4:nest+t.length≤256:=g.2.2.2
  clear g k0 hD
  cases bb with
  | true =>
   obtain⟨rfl,rfl,rfl⟩:=bad _ _ _ g1
   clear step bad
   obtain⟨k,t,nn,l⟩:=X
   (repeat' first|(refine R0 ?_;cbv))
   all_goals first
    | exact⟨.refl _,trivial⟩
    | trace_state
  | false =>
   have kn:=next_fn O t false v 43 43 rfl (by omega)
   rcases step _ _ _ g1 g2 g3 g4 with ⟨m',t',y,t2,b2,rfl,rfl,q1,q2,q3,q4,q5,kp⟩ | ⟨q1,q2,rfl,rfl,rfl⟩
   ·rw[q3,q4] at kn
    clear step bad g1 q3 q4
    have htwo:=Nds.two O x y
    obtain⟨k,t,nn,l⟩:=x
    obtain⟨k',tt,nn',l'⟩:=y
    (repeat' first|(refine CallThen.mk _ _ (C.fn (kn)) ?_;cbv)|(refine CallThen.mk _ _ (C.fn (kp)) ?_;cbv))
    refine Back.mk (m',sumN (.mk k t nn l) (.mk k' tt nn' l'),t2,b2) [] [1280] ⟨q5,q2,by show m'≤n;omega,by show nest+t2.length≤256;omega⟩ (by show t2.length<(43::t').length;omega) ?_
    cbv
    (repeat' apply And.intro)<;>try first|exact True.intro|exact WkR.refl _|rfl|exact e0|exact e0.symm
    refine Nm fun rs e=>⟨?_,?_⟩
    ·exact .of_eq (htwo.trans e.symm)
    ·cbv
   ·rw[q1,q2] at kn
    clear step bad g1
    obtain⟨k,t,nn,l⟩:=X
    (repeat' first|(refine CallThen.mk _ _ (C.fn (kn)) ?_;cbv)|(refine R0 ?_;cbv))
    all_goals first
     | exact⟨.refl _,trivial⟩
     | trace_state
theorem all_says (O:Opq):∀ n,(PartSays O n∧ProdSays O n∧SumSays O n):=by
 have key:∀ n,∀ m,m≤n→PartSays O m:=by
  intro n
  induction n with
  | zero =>
   intro m hm s nest x r b _ hs
   omega
  | succ n ih =>
   intro m hm
   by_cases hmn:m≤n
   ·exact ih m hmn
   ·have:m=n+1:=by omega
    subst this
    exact part_says (inner_says (sum_says fun j hj=>prod_says fun i hi=>ih i (by omega)))
 exact fun n=>⟨key n n (Nat.le_refl _),prod_says fun m hm=>key n m hm,sum_says fun m hm=>prod_says fun i hi=>key n i (by omega)⟩
end Go.Sym
