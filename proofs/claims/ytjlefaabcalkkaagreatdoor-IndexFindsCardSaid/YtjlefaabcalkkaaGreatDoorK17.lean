/- Sorting pairs: those that are nearly sorted. -/
import Derived.Test.YtjlefaabcalkkaaGreatDoorK16
set_option linter.all false
set_option linter.unusedVariables false
set_option linter.unusedSimpArgs false
namespace Go.Sym
open Go Go.Proofs.Tryz
set_option maxRecDepth 100000
open Go.Sort (swp scanSorted shiftDown shiftUp partialIns partialInsertionSort)
theorem scanS_go {d:Array PairK} {b i:Nat} (h:i<b) (hp:ltP d[i]! d[i-1]! = false):scanSorted ltP d b i=scanSorted ltP d b (i+1):=by
 rw[scanSorted,if_pos (by simp [h,hp])]
theorem scanS_stop {d:Array PairK} {b i:Nat} (h:i<b→ltP d[i]! d[i-1]! = true):scanSorted ltP d b i=i:=by
 rw[scanSorted,if_neg]
 intro k
 simp only [Bool.and_eq_true,decide_eq_true_eq] at k
 rw[h k.1] at k
 cases k.2
theorem shiftD_go {d:Array PairK} {j:Nat} (h:1≤j) (hp:ltP d[j]! d[j-1]! = true):shiftDown ltP j d=shiftDown ltP (j-1) (swp d j (j-1)):=by
 cases j with
 | zero=>omega
 | succ m=>rw[shiftDown,if_neg (by rw[show m+1-1=m from rfl] at hp;simp [hp])];rfl
theorem shiftD_stop {d:Array PairK} {j:Nat} (h:1≤j→ltP d[j]! d[j-1]! = false):shiftDown ltP j d=d:=by
 cases j with
 | zero=>rfl
 | succ m=>rw[shiftDown,if_pos (by have:=h (by omega);rw[show m+1-1=m from rfl] at this;simp [this])]
theorem shiftU_go {d:Array PairK} {b j:Nat} (h:j<b) (hp:ltP d[j]! d[j-1]! = true):shiftUp ltP b j d=shiftUp ltP b (j+1) (swp d j (j-1)):=by
 rw[shiftUp,if_pos h,if_neg (by simp [hp])]
theorem shiftU_stop {d:Array PairK} {b j:Nat} (h:j<b→ltP d[j]! d[j-1]! = false):shiftUp ltP b j d=d:=by
 rw[shiftUp]
 split
 ·rename_i k;rw[if_pos (by simp [h k])]
 ·rfl
theorem partIns_at {d:Array PairK} {a b t i k:Nat} (ht:t<5) (hk:k=scanSorted ltP d b i):partialIns ltP a b (5-t) i d =
  if k=b then(d,true) else if b-a<50 then(d,false) else
   partialIns ltP a b (5-(t+1)) k (if 2≤b-k then shiftUp ltP b (k+1) (if 2≤k-a then shiftDown ltP (k-1) (swp d k (k-1)) else swp d k (k-1)) else(if 2≤k-a then shiftDown ltP (k-1) (swp d k (k-1)) else swp d k (k-1))):=by
 obtain⟨s,hs⟩:∃ s,5-t=s+1:=⟨5-t-1,by omega⟩
 rw[hs,show 5-(t+1)=s by omega,partialIns]
 simp only [← hk]
theorem shiftD_size:∀ (j:Nat) (d:Array PairK),(shiftDown ltP j d).size=d.size
 | 0,_=>rfl
 | j+1,d=>by
  rw[shiftDown]
  split
  ·rfl
  ·rw[shiftD_size j,swp_size]
theorem shiftU_size (b:Nat):∀ (m j:Nat) (d:Array PairK),b-j≤m→(shiftUp ltP b j d).size=d.size:=by
 intro m
 induction m with
 | zero=>intro j d h;rw[shiftU_stop fun k=>by omega]
 | succ m ih =>
  intro j d h
  rw[shiftUp]
  split
  ·split
   ·rfl
   ·rw[ih _ _ (by omega),swp_size]
  ·rfl
theorem partIns_size (a b:Nat):∀ (s i:Nat) (d:Array PairK),(partialIns ltP a b s i d).1.size=d.size
 | 0,_,_=>rfl
 | s+1,i,d=>by
  rw[partialIns]
  split
  ·rfl
  ·split
   ·rfl
   ·rw[partIns_size]
    split<;>split<;>simp [shiftU_size b _ _ _ (Nat.le_refl _),shiftD_size,swp_size]
set_option maxHeartbeats 16000000 in
theorem partialIns_fn (O:Opq) (d:Array PairK) (a b:Nat) (ai bi:Int) (r:Bool) (hai:ai=a) (hbi:bi=b) (hr:r=(partialInsertionSort ltP d a b).2) (hb:b≤d.size) (ha:a<b) (hd:d.size≤1000000) :
  Fn prog 84 [.ref 0,.int .i64 ai,.int .i64 bi,.fn 35 [] []] [.arr 0 none 2 (O.o arrE d)] [.bool r] [.arr 0 none 2 (O.o arrE (partialInsertionSort ltP d a b).1)]:=by
 obtain⟨R,hR⟩:∃ R,R=partialInsertionSort ltP d a b:=⟨_,rfl⟩
 rw[← hR] at hr ⊢
 have hR:partialIns ltP a b (5-0) (a+1) d=R:=hR.symm
 obtain⟨z,hz⟩:∃ z:Nat×Nat×Array PairK,z=(0,a+1,d):=⟨_,rfl⟩
 obtain⟨n,hn⟩:∃ n,n=d.size:=⟨_,rfl⟩
 have z1:z.1=0:=by rw[hz]
 have z3:z.2.1=a+1:=by rw[hz]
 have z2:O.o arrE d=O.o arrE z.2.2:=by rw[hz]
 have hz0:z.1≤5∧a+1≤z.2.1∧z.2.1≤b∧z.2.2.size=n∧partialIns ltP a b (5-z.1) z.2.1 z.2.2=R:=by rw[hz];exact⟨by dsimp only;omega,Nat.le_refl _,by dsimp only;omega,hn.symm,hR⟩
 have hb:b≤n:=by omega
 have hd:n≤1000000:=by omega
 clear hz hR hn
 obtain⟨R1,R2⟩:=R
 replace hr:r=R2:=hr
 subst hr
 show Fn prog _ _ _ _ [.arr 0 none 2 (O.o arrE R1)]
 obtain⟨Z,hZ⟩:∃ Z,Z=O.o arrE d:=⟨_,rfl⟩
 rw[← hZ] at z2 ⊢
 clear hZ
 refine go (fn:=Proofs.Tryz.f84) (n:=137) (rv:=[ResultVar.tmp 8]) rfl (by decide) rfl (by decide +kernel) rfl rfl (by simp) fun F L C=>?_
 cbv
 (repeat' first|(refine Na ?_ fun _ _=>?_;(focus lia);cbv))
 refine LoopThen.mk (C.loopAt (ι:=Nat×Nat×Array PairK) [(9,140)] (fun x=>[(9,.int .i64 x.2.1),(10,.int .i64 x.1)]) (fun x=>[(0,.arr 0 none 2 (O.o arrE x.2.2))])
  (fun x=>x.1≤5∧a+1≤x.2.1∧x.2.1≤b∧x.2.2.size=n∧partialIns ltP a b (5-x.1) x.2.1 x.2.2=(R1,r)) (fun x=>5-x.1) (by decide +kernel) (Start.mk z [] [] hz0 ?_) ?_)
 ·cbv
  (repeat' apply And.intro)<;>first|exact True.intro|exact WkR.refl _|exact WkR.of_eq z2.symm|rfl|(clear hz0 z2;lia)|trace_state
 intro x g
 obtain⟨t,i,e⟩:=x
 cbv
 clear hz0 z1 z2 z3
 have g0:t≤5:=g.1
 have g1:a+1≤i:=g.2.1
 have g1':i≤b:=g.2.2.1
 have g2:e.size=n:=g.2.2.2.1
 have g3:partialIns ltP a b (5-t) i e=(R1,r):=g.2.2.2.2
 clear g
 have hlen:=arrE_len O e
 by_cases ht:t<5
 ·obtain⟨I2,hI2⟩:∃ u,u=scanSorted ltP e b i:=⟨_,rfl⟩
  have hat:=g3.symm.trans (partIns_at ht hI2)
  obtain⟨k0,hk0⟩:∃ k0:Nat,k0=i:=⟨_,rfl⟩
  have hk:i≤k0∧k0≤b∧scanSorted ltP e b k0=I2:=by rw[hk0];exact⟨Nat.le_refl _,g1',hI2.symm⟩
  clear hI2 g3
  (repeat' first|(refine Br.t ?_ ?_;(focus first|assumption|lia);cbv))
  refine LoopThen.mk (C.loopAt (ι:=Nat) [(9,9),(15,140)] (fun k=>[(9,.int .i64 k)]) (fun _=>[(0,.arr 0 none 2 (O.o arrE e))])
   (fun k=>i≤k∧k≤b∧scanSorted ltP e b k=I2) (fun k=>b-k) (by decide +kernel) (Start.mk k0 [] [] hk ?_) ?_)
  ·cbv
   (repeat' apply And.intro)<;>first|exact True.intro|exact WkR.refl _|rfl|(clear hk hat;lia)|trace_state
  intro k g
  cbv
  have k1:i≤k:=g.1
  have k3:k≤b:=g.2.1
  have k2:scanSorted ltP e b k=I2:=g.2.2
  clear g hk hk0
  by_cases hkb:k<b
  ·obtain⟨x,hx⟩:∃ x,x=e[k]!:=⟨_,rfl⟩
   obtain⟨y,hy⟩:∃ y,y=e[k-1]!:=⟨_,rfl⟩
   have b1:k<e.size:=by omega
   have b2:k-1<e.size:=by omega
   have kc:=order_fn O x y
   have hgo:¬ O.o (ordI x) y<0→scanSorted ltP e b (k+1)=I2:=fun h=>by rw[← k2];exact(scanS_go hkb (by rw[O.h] at h;rw[← hx,← hy];simpa [ltP] using h)).symm
   have hstop:O.o (ordI x) y<0→k=I2:=fun h=>by rw[← k2];exact(scanS_stop fun _=>(by rw[O.h] at h;rw[← hx,← hy];simpa [ltP] using h)).symm
   obtain⟨S,hS⟩:∃ S,S=O.o (ordI x) y:=⟨_,rfl⟩
   rw[← hS] at kc hgo hstop
   clear hS k2
   obtain⟨xa,xb⟩:=x
   obtain⟨ya,yb⟩:=y
   by_cases hs:S<0
   ·have hstop:=hstop hs
    subst hstop
    clear hgo
    rw[if_neg (by omega)] at hat
    by_cases h50:b-a<50
    ·rw[if_pos h50] at hat
     cases hat
     (repeat' first|(refine Na ?_ fun _ _=>?_;(focus lia);cbv)|(refine Ex.arr O b1 hx ?_ ?_;(focus lia);cbv)|(refine Ex.arr O b2 hy ?_ ?_;(focus lia);cbv)|(refine CallThen.mk _ _ (C.fn (kc)) ?_;cbv)|(refine Nm fun _ _=>?_;cbv)|(refine Br.t ?_ ?_;(focus first|assumption|lia);cbv)|(refine Br.f ?_ ?_;(focus first|assumption|lia);cbv)|(refine Need.mk ?_ ?_;rotate_left;cbv)|(refine R0 ?_;cbv))
     all_goals first
      | ((repeat' apply And.intro)<;>first|exact True.intro|rfl|exact WkR.refl _|(clear hx hy kc;lia))
      | (clear hx hy kc;lia)
      | trace_state
    ·rw[if_neg h50] at hat
     have hsz:=swp_size e k (k-1)
     have hsw:=@swp_rows O e k (k-1) _ _ b1 b2 hx hy
     obtain⟨f,hf⟩:∃ V,V=swp e k (k-1):=⟨_,rfl⟩
     rw[← hf] at hsz hsw hat
     obtain⟨D2,hD2⟩:∃ V,V=if 2≤k-a then shiftDown ltP (k-1) f else f:=⟨_,rfl⟩
     rw[← hD2] at hat
     obtain⟨D3,hD3⟩:∃ V,V=if 2≤b-k then shiftUp ltP b (k+1) D2 else D2:=⟨_,rfl⟩
     rw[← hD3] at hat
     clear hf
     have g2:f.size=n:=by omega
     by_cases hka:2≤k-a
     ·rw[if_pos hka] at hD2
      obtain⟨z,hz⟩:∃ z:Nat×Array PairK,z=(k-1,f):=⟨_,rfl⟩
      have z1:z.1=k-1:=by rw[hz]
      have z2:O.o arrE f=O.o arrE z.2:=by rw[hz]
      have hz0:z.1≤k-1∧z.2.size=n∧shiftDown ltP z.1 z.2=D2:=by rw[hz];exact⟨Nat.le_refl _,g2,hD2.symm⟩
      clear hz hD2
      (repeat' first|(refine Na ?_ fun _ _=>?_;(focus lia);cbv)|(refine Ex.arr O b1 hx ?_ ?_;(focus lia);cbv)|(refine Ex.arr O b2 hy ?_ ?_;(focus lia);cbv)|(refine Ex.swp O b2 hy (by assumption) rfl ?_ ?_;(focus(clear hat hD3 hz0 z2;lia));cbv)|(refine CallThen.mk _ _ (C.fn (kc)) ?_;cbv)|(refine Nl fun _ _ hq=>?_;(try simp only [lenS] at hq);cbv)|(refine Nm fun _ _=>?_;cbv)|(refine Br.t ?_ ?_;(focus first|assumption|lia);cbv)|(refine Br.f ?_ ?_;(focus first|assumption|lia);cbv)|(refine Need.mk ?_ ?_;rotate_left;cbv))
      all_goals try(clear hx hy kc hsw hat hD3 hz0 z2;lia)
      have hq2:=hsw (by assumption) (by assumption) rfl rfl (by lia) (by lia)
      subst hq2
      clear hsw kc hx hy b1 b2
      refine LoopThen.mk (C.loopAt (ι:=Nat×Array PairK) [(11,11),(15,140)] (fun x=>[(11,.int .i64 x.1)]) (fun x=>[(0,.arr 0 none 2 (O.o arrE x.2))])
       (fun x=>x.1≤k-1∧x.2.size=n∧shiftDown ltP x.1 x.2=D2) (fun x=>x.1) (by decide +kernel) (Start.mk z [] [] hz0 ?_) ?_)
      ·cbv
       (repeat' apply And.intro)<;>first|exact True.intro|exact WkR.refl _|exact WkR.of_eq z2.symm|rfl|(clear hz0 z2 hat hD3;lia)|trace_state
      clear hz0 z1 z2
      intro y g
      obtain⟨j,f⟩:=y
      cbv
      have q1:j≤k-1:=g.1
      have g2:f.size=n:=g.2.1
      have q4:shiftDown ltP j f=D2:=g.2.2
      clear g
      have hlen:=arrE_len O f
      by_cases hj:1≤j
      ·obtain⟨x,hx⟩:∃ x,x=f[j]!:=⟨_,rfl⟩
       obtain⟨y,hy⟩:∃ y,y=f[j-1]!:=⟨_,rfl⟩
       have b1:j<f.size:=by omega
       have b2:j-1<f.size:=by omega
       have kc:=order_fn O x y
       have hyes:O.o (ordI x) y<0→shiftDown ltP (j-1) (swp f j (j-1))=D2:=fun q=>by rw[← q4,shiftD_go hj (by rw[O.h] at q;rw[← hx,← hy];simpa [ltP] using q)]
       have hno:¬ O.o (ordI x) y<0→f=D2:=fun q=>by rw[← q4,shiftD_stop fun _=>(by rw[O.h] at q;rw[← hx,← hy];simpa [ltP] using q)]
       have hsz:=swp_size f j (j-1)
       obtain⟨S,hS⟩:∃ S,S=O.o (ordI x) y:=⟨_,rfl⟩
       rw[← hS] at kc hyes hno
       clear hS q4
       obtain⟨xa,xb⟩:=x
       obtain⟨ya,yb⟩:=y
       by_cases hs:S<0
       ·have hyes:=hyes hs
        clear hno hat hD3
        (repeat' first|(refine Na ?_ fun _ _=>?_;(focus lia);cbv)|(refine Ex.arr O b1 hx ?_ ?_;(focus lia);cbv)|(refine Ex.arr O b2 hy ?_ ?_;(focus lia);cbv)|(refine Ex.swp O b2 hy (by assumption) rfl ?_ ?_;(focus lia);cbv)|(refine CallThen.mk _ _ (C.fn (kc)) ?_;cbv)|(refine Back.to (j-1,swp f j (j-1)) [] [] ?_ fun _ _=>?_;rotate_left;cbv)|(refine Nl fun _ _ hq=>?_;(try simp only [lenS] at hq);cbv)|(refine Nm fun _ _=>?_;cbv)|(refine Br.t ?_ ?_;(focus first|assumption|lia);cbv)|(refine Need.mk ?_ ?_;rotate_left;cbv))
        all_goals first
         | (rename_i y' hy';subst hy';refine⟨WkR.of_eq (swp_rows O b1 b2 hx hy (by assumption) (by assumption) rfl rfl (by lia) (by lia)).symm,?_,trivial⟩;(clear hx hy kc hyes;lia))
         | exact⟨⟨by dsimp only;omega,by dsimp only;omega,hyes⟩,by dsimp only;omega⟩
         | (clear hx hy kc hyes;lia)
         | trace_state
       ·have hno:=hno hs
        subst hno
        clear hyes
        have ku:=trivial
        by_cases hbk:2≤b-k
        ·rw[if_pos hbk] at hD3
         obtain⟨z,hz⟩:∃ z:Nat×Array PairK,z=(k+1,f):=⟨_,rfl⟩
         have z1:z.1=k+1:=by rw[hz]
         have z2:O.o arrE f=O.o arrE z.2:=by rw[hz]
         have hz0:k+1≤z.1∧z.1≤b∧z.2.size=n∧shiftUp ltP b z.1 z.2=D3:=by rw[hz];exact⟨Nat.le_refl _,by dsimp only;omega,g2,hD3.symm⟩
         clear hz hD3
         (repeat' first|(refine Na ?_ fun _ _=>?_;(focus lia);cbv)|(refine Ex.arr O b1 hx ?_ ?_;(focus lia);cbv)|(refine Ex.arr O b2 hy ?_ ?_;(focus lia);cbv)|(refine CallThen.mk _ _ (C.fn (kc)) ?_;cbv)|(refine Nm fun _ _=>?_;cbv)|(refine Br.t ?_ ?_;(focus first|assumption|lia);cbv)|(refine Br.f ?_ ?_;(focus first|assumption|lia);cbv)|(refine Need.mk ?_ ?_;rotate_left;cbv))
         all_goals try(clear hx hy kc hat hz0 z2;lia)
         refine LoopThen.mk (C.loopAt (ι:=Nat×Array PairK) [(12,140)] (fun x=>[(12,.int .i64 x.1)]) (fun x=>[(0,.arr 0 none 2 (O.o arrE x.2))])
          (fun x=>k+1≤x.1∧x.1≤b∧x.2.size=n∧shiftUp ltP b x.1 x.2=D3) (fun x=>b-x.1) (by decide +kernel) (Start.mk z [] [] hz0 ?_) ?_)
         ·cbv
          (repeat' apply And.intro)<;>first|exact True.intro|exact WkR.refl _|exact WkR.of_eq z2.symm|rfl|(clear hz0 z2 hat;lia)|trace_state
         intro y g
         obtain⟨j,h⟩:=y
         cbv
         clear hz0 z1 z2 hx hy kc
         have q1:k+1≤j:=g.1
         have q2:j≤b:=g.2.1
         have q3:h.size=n:=g.2.2.1
         have q4:shiftUp ltP b j h=D3:=g.2.2.2
         clear g
         have hlen:=arrE_len O h
         by_cases hj:j<b
         ·obtain⟨x,hx⟩:∃ x,x=h[j]!:=⟨_,rfl⟩
          obtain⟨y,hy⟩:∃ y,y=h[j-1]!:=⟨_,rfl⟩
          have b1:j<h.size:=by omega
          have b2:j-1<h.size:=by omega
          have kc:=order_fn O x y
          have hyes:O.o (ordI x) y<0→shiftUp ltP b (j+1) (swp h j (j-1))=D3:=fun q=>by rw[← q4,shiftU_go hj (by rw[O.h] at q;rw[← hx,← hy];simpa [ltP] using q)]
          have hno:¬ O.o (ordI x) y<0→h=D3:=fun q=>by rw[← q4,shiftU_stop fun _=>(by rw[O.h] at q;rw[← hx,← hy];simpa [ltP] using q)]
          have hsz:=swp_size h j (j-1)
          obtain⟨S,hS⟩:∃ S,S=O.o (ordI x) y:=⟨_,rfl⟩
          rw[← hS] at kc hyes hno
          clear hS q4
          obtain⟨xa,xb⟩:=x
          obtain⟨ya,yb⟩:=y
          by_cases hs:S<0
          ·have hyes:=hyes hs
           clear hno hat
           (repeat' first|(refine Na ?_ fun _ _=>?_;(focus lia);cbv)|(refine Ex.arr O b1 hx ?_ ?_;(focus lia);cbv)|(refine Ex.arr O b2 hy ?_ ?_;(focus lia);cbv)|(refine Ex.swp O b2 hy (by assumption) rfl ?_ ?_;(focus lia);cbv)|(refine CallThen.mk _ _ (C.fn (kc)) ?_;cbv)|(refine Back.to (j+1,swp h j (j-1)) [] [] ?_ fun _ _=>?_;rotate_left;cbv)|(refine Nl fun _ _ hq=>?_;(try simp only [lenS] at hq);cbv)|(refine Nm fun _ _=>?_;cbv)|(refine Br.t ?_ ?_;(focus first|assumption|lia);cbv)|(refine Need.mk ?_ ?_;rotate_left;cbv))
           all_goals first
            | (rename_i y' hy';subst hy';refine⟨WkR.of_eq (swp_rows O b1 b2 hx hy (by assumption) (by assumption) rfl rfl (by lia) (by lia)).symm,?_,trivial⟩;(clear hx hy kc hyes;lia))
            | exact⟨⟨by dsimp only;omega,by dsimp only;omega,by dsimp only;omega,hyes⟩,by dsimp only;omega⟩
            | (clear hx hy kc hyes;lia)
            | trace_state
          ·have hno:=hno hs
           subst hno
           clear hyes
           (repeat' first|(refine Na ?_ fun _ _=>?_;(focus lia);cbv)|(refine Ex.arr O b1 hx ?_ ?_;(focus lia);cbv)|(refine Ex.arr O b2 hy ?_ ?_;(focus lia);cbv)|(refine CallThen.mk _ _ (C.fn (kc)) ?_;cbv)|(refine Back.to (t+1,k,h) [] [] ?_ fun _ _=>?_;rotate_left;cbv)|(refine Nm fun _ _=>?_;cbv)|(refine Br.t ?_ ?_;(focus first|assumption|lia);cbv)|(refine Br.f ?_ ?_;(focus first|assumption|lia);cbv)|(refine Need.mk ?_ ?_;rotate_left;cbv))
           all_goals first
            | (rename_i y' hy';subst hy';refine⟨WkR.refl _,?_,?_,trivial⟩<;>(clear hx hy kc hat;lia))
            | exact⟨⟨by dsimp only;omega,by dsimp only;omega,by dsimp only;omega,q3,hat.symm⟩,by dsimp only;omega⟩
            | (clear hx hy kc hat;lia)
            | trace_state
         ·have hno:h=D3:=by rw[← q4,shiftU_stop fun q=>absurd q hj]
          subst hno
          clear q4
          (repeat' first|(refine Na ?_ fun _ _=>?_;(focus lia);cbv)|(refine Back.to (t+1,k,h) [] [] ?_ fun _ _=>?_;rotate_left;cbv)|(refine Br.f ?_ ?_;(focus first|assumption|lia);cbv))
          all_goals first
           | (rename_i y' hy';subst hy';refine⟨WkR.refl _,?_,?_,trivial⟩<;>(clear hat;lia))
           | exact⟨⟨by dsimp only;omega,by dsimp only;omega,by dsimp only;omega,q3,hat.symm⟩,by dsimp only;omega⟩
           | (clear hat;lia)
           | trace_state
        ·rw[if_neg hbk] at hD3
         replace hD3:=hD3.symm
         subst hD3
         (repeat' first|(refine Na ?_ fun _ _=>?_;(focus lia);cbv)|(refine Ex.arr O b1 hx ?_ ?_;(focus lia);cbv)|(refine Ex.arr O b2 hy ?_ ?_;(focus lia);cbv)|(refine CallThen.mk _ _ (C.fn (kc)) ?_;cbv)|(refine Back.to (t+1,k,f) [] [] ?_ fun _ _=>?_;rotate_left;cbv)|(refine Nm fun _ _=>?_;cbv)|(refine Br.t ?_ ?_;(focus first|assumption|lia);cbv)|(refine Br.f ?_ ?_;(focus first|assumption|lia);cbv)|(refine Need.mk ?_ ?_;rotate_left;cbv))
         all_goals first
          | (rename_i y' hy';subst hy';refine⟨WkR.refl _,?_,?_,trivial⟩<;>(clear hat;lia))
          | exact⟨⟨by dsimp only;omega,by dsimp only;omega,by dsimp only;omega,g2,hat.symm⟩,by dsimp only;omega⟩
          | (clear hat;lia)
          | (clear hat hx hy kc;lia)
          | trace_state
      ·have hno:f=D2:=by rw[← q4,shiftD_stop fun q=>absurd q hj]
       subst hno
       clear q4
       have ku:=trivial
       by_cases hbk:2≤b-k
       ·rw[if_pos hbk] at hD3
        obtain⟨z,hz⟩:∃ z:Nat×Array PairK,z=(k+1,f):=⟨_,rfl⟩
        have z1:z.1=k+1:=by rw[hz]
        have z2:O.o arrE f=O.o arrE z.2:=by rw[hz]
        have hz0:k+1≤z.1∧z.1≤b∧z.2.size=n∧shiftUp ltP b z.1 z.2=D3:=by rw[hz];exact⟨Nat.le_refl _,by dsimp only;omega,g2,hD3.symm⟩
        clear hz hD3
        (repeat' first|(refine Na ?_ fun _ _=>?_;(focus lia);cbv)|(refine Br.t ?_ ?_;(focus first|assumption|lia);cbv)|(refine Br.f ?_ ?_;(focus first|assumption|lia);cbv))
        all_goals try(clear ku hat hz0 z2;lia)
        refine LoopThen.mk (C.loopAt (ι:=Nat×Array PairK) [(12,140)] (fun x=>[(12,.int .i64 x.1)]) (fun x=>[(0,.arr 0 none 2 (O.o arrE x.2))])
         (fun x=>k+1≤x.1∧x.1≤b∧x.2.size=n∧shiftUp ltP b x.1 x.2=D3) (fun x=>b-x.1) (by decide +kernel) (Start.mk z [] [] hz0 ?_) ?_)
        ·cbv
         (repeat' apply And.intro)<;>first|exact True.intro|exact WkR.refl _|exact WkR.of_eq z2.symm|rfl|(clear hz0 z2 hat;lia)|trace_state
        intro y g
        obtain⟨j,h⟩:=y
        cbv
        clear hz0 z1 z2 ku
        have q1:k+1≤j:=g.1
        have q2:j≤b:=g.2.1
        have q3:h.size=n:=g.2.2.1
        have q4:shiftUp ltP b j h=D3:=g.2.2.2
        clear g
        have hlen:=arrE_len O h
        by_cases hj:j<b
        ·obtain⟨x,hx⟩:∃ x,x=h[j]!:=⟨_,rfl⟩
         obtain⟨y,hy⟩:∃ y,y=h[j-1]!:=⟨_,rfl⟩
         have b1:j<h.size:=by omega
         have b2:j-1<h.size:=by omega
         have kc:=order_fn O x y
         have hyes:O.o (ordI x) y<0→shiftUp ltP b (j+1) (swp h j (j-1))=D3:=fun q=>by rw[← q4,shiftU_go hj (by rw[O.h] at q;rw[← hx,← hy];simpa [ltP] using q)]
         have hno:¬ O.o (ordI x) y<0→h=D3:=fun q=>by rw[← q4,shiftU_stop fun _=>(by rw[O.h] at q;rw[← hx,← hy];simpa [ltP] using q)]
         have hsz:=swp_size h j (j-1)
         obtain⟨S,hS⟩:∃ S,S=O.o (ordI x) y:=⟨_,rfl⟩
         rw[← hS] at kc hyes hno
         clear hS q4
         obtain⟨xa,xb⟩:=x
         obtain⟨ya,yb⟩:=y
         by_cases hs:S<0
         ·have hyes:=hyes hs
          clear hno hat
          (repeat' first|(refine Na ?_ fun _ _=>?_;(focus lia);cbv)|(refine Ex.arr O b1 hx ?_ ?_;(focus lia);cbv)|(refine Ex.arr O b2 hy ?_ ?_;(focus lia);cbv)|(refine Ex.swp O b2 hy (by assumption) rfl ?_ ?_;(focus lia);cbv)|(refine CallThen.mk _ _ (C.fn (kc)) ?_;cbv)|(refine Back.to (j+1,swp h j (j-1)) [] [] ?_ fun _ _=>?_;rotate_left;cbv)|(refine Nl fun _ _ hq=>?_;(try simp only [lenS] at hq);cbv)|(refine Nm fun _ _=>?_;cbv)|(refine Br.t ?_ ?_;(focus first|assumption|lia);cbv)|(refine Need.mk ?_ ?_;rotate_left;cbv))
          all_goals first
           | (rename_i y' hy';subst hy';refine⟨WkR.of_eq (swp_rows O b1 b2 hx hy (by assumption) (by assumption) rfl rfl (by lia) (by lia)).symm,?_,trivial⟩;(clear hx hy kc hyes;lia))
           | exact⟨⟨by dsimp only;omega,by dsimp only;omega,by dsimp only;omega,hyes⟩,by dsimp only;omega⟩
           | (clear hx hy kc hyes;lia)
           | trace_state
         ·have hno:=hno hs
          subst hno
          clear hyes
          (repeat' first|(refine Na ?_ fun _ _=>?_;(focus lia);cbv)|(refine Ex.arr O b1 hx ?_ ?_;(focus lia);cbv)|(refine Ex.arr O b2 hy ?_ ?_;(focus lia);cbv)|(refine CallThen.mk _ _ (C.fn (kc)) ?_;cbv)|(refine Back.to (t+1,k,h) [] [] ?_ fun _ _=>?_;rotate_left;cbv)|(refine Nm fun _ _=>?_;cbv)|(refine Br.t ?_ ?_;(focus first|assumption|lia);cbv)|(refine Br.f ?_ ?_;(focus first|assumption|lia);cbv)|(refine Need.mk ?_ ?_;rotate_left;cbv))
          all_goals first
           | (rename_i y' hy';subst hy';refine⟨WkR.refl _,?_,?_,trivial⟩<;>(clear hx hy kc hat;lia))
           | exact⟨⟨by dsimp only;omega,by dsimp only;omega,by dsimp only;omega,q3,hat.symm⟩,by dsimp only;omega⟩
           | (clear hx hy kc hat;lia)
           | trace_state
        ·have hno:h=D3:=by rw[← q4,shiftU_stop fun q=>absurd q hj]
         subst hno
         clear q4
         (repeat' first|(refine Na ?_ fun _ _=>?_;(focus lia);cbv)|(refine Back.to (t+1,k,h) [] [] ?_ fun _ _=>?_;rotate_left;cbv)|(refine Br.f ?_ ?_;(focus first|assumption|lia);cbv))
         all_goals first
          | (rename_i y' hy';subst hy';refine⟨WkR.refl _,?_,?_,trivial⟩<;>(clear hat;lia))
          | exact⟨⟨by dsimp only;omega,by dsimp only;omega,by dsimp only;omega,q3,hat.symm⟩,by dsimp only;omega⟩
          | (clear hat;lia)
          | trace_state
       ·rw[if_neg hbk] at hD3
        replace hD3:=hD3.symm
        subst hD3
        (repeat' first|(refine Na ?_ fun _ _=>?_;(focus lia);cbv)|(refine Back.to (t+1,k,f) [] [] ?_ fun _ _=>?_;rotate_left;cbv)|(refine Br.f ?_ ?_;(focus first|assumption|lia);cbv))
        all_goals first
         | (rename_i y' hy';subst hy';refine⟨WkR.refl _,?_,?_,trivial⟩<;>(clear hat;lia))
         | exact⟨⟨by dsimp only;omega,by dsimp only;omega,by dsimp only;omega,g2,hat.symm⟩,by dsimp only;omega⟩
         | (clear hat;lia)
         | (clear hat ku;lia)
         | trace_state
     ·rw[if_neg hka] at hD2
      replace hD2:=hD2.symm
      subst hD2
      by_cases hbk:2≤b-k
      ·rw[if_pos hbk] at hD3
       obtain⟨z,hz⟩:∃ z:Nat×Array PairK,z=(k+1,f):=⟨_,rfl⟩
       have z1:z.1=k+1:=by rw[hz]
       have z2:O.o arrE f=O.o arrE z.2:=by rw[hz]
       have hz0:k+1≤z.1∧z.1≤b∧z.2.size=n∧shiftUp ltP b z.1 z.2=D3:=by rw[hz];exact⟨Nat.le_refl _,by dsimp only;omega,g2,hD3.symm⟩
       clear hz hD3
       (repeat' first|(have hq2:=hsw (by assumption) (by assumption) rfl rfl (by lia) (by lia);subst hq2)|(refine Na ?_ fun _ _=>?_;(focus lia);cbv)|(refine Ex.arr O b1 hx ?_ ?_;(focus lia);cbv)|(refine Ex.arr O b2 hy ?_ ?_;(focus lia);cbv)|(refine Ex.swp O b2 hy (by assumption) rfl ?_ ?_;(focus(clear hat;lia));cbv)|(refine CallThen.mk _ _ (C.fn (kc)) ?_;cbv)|(refine Nl fun _ _ hq=>?_;(try simp only [lenS] at hq);cbv)|(refine Nm fun _ _=>?_;cbv)|(refine Br.t ?_ ?_;(focus first|assumption|lia);cbv)|(refine Br.f ?_ ?_;(focus first|assumption|lia);cbv)|(refine Need.mk ?_ ?_;rotate_left;cbv))
       all_goals try(clear hx hy kc hsw hat hz0 z2;lia)
       refine LoopThen.mk (C.loopAt (ι:=Nat×Array PairK) [(12,140)] (fun x=>[(12,.int .i64 x.1)]) (fun x=>[(0,.arr 0 none 2 (O.o arrE x.2))])
        (fun x=>k+1≤x.1∧x.1≤b∧x.2.size=n∧shiftUp ltP b x.1 x.2=D3) (fun x=>b-x.1) (by decide +kernel) (Start.mk z [] [] hz0 ?_) ?_)
       ·cbv
        (repeat' apply And.intro)<;>first|exact True.intro|exact WkR.refl _|exact WkR.of_eq z2.symm|rfl|(clear hz0 z2 hat;lia)|trace_state
       intro y g
       obtain⟨j,h⟩:=y
       cbv
       clear hz0 z1 z2 hx hy kc hsw
       have q1:k+1≤j:=g.1
       have q2:j≤b:=g.2.1
       have q3:h.size=n:=g.2.2.1
       have q4:shiftUp ltP b j h=D3:=g.2.2.2
       clear g
       have hlen:=arrE_len O h
       by_cases hj:j<b
       ·obtain⟨x,hx⟩:∃ x,x=h[j]!:=⟨_,rfl⟩
        obtain⟨y,hy⟩:∃ y,y=h[j-1]!:=⟨_,rfl⟩
        have b1:j<h.size:=by omega
        have b2:j-1<h.size:=by omega
        have kc:=order_fn O x y
        have hyes:O.o (ordI x) y<0→shiftUp ltP b (j+1) (swp h j (j-1))=D3:=fun q=>by rw[← q4,shiftU_go hj (by rw[O.h] at q;rw[← hx,← hy];simpa [ltP] using q)]
        have hno:¬ O.o (ordI x) y<0→h=D3:=fun q=>by rw[← q4,shiftU_stop fun _=>(by rw[O.h] at q;rw[← hx,← hy];simpa [ltP] using q)]
        have hsz:=swp_size h j (j-1)
        obtain⟨S,hS⟩:∃ S,S=O.o (ordI x) y:=⟨_,rfl⟩
        rw[← hS] at kc hyes hno
        clear hS q4
        obtain⟨xa,xb⟩:=x
        obtain⟨ya,yb⟩:=y
        by_cases hs:S<0
        ·have hyes:=hyes hs
         clear hno hat
         (repeat' first|(refine Na ?_ fun _ _=>?_;(focus lia);cbv)|(refine Ex.arr O b1 hx ?_ ?_;(focus lia);cbv)|(refine Ex.arr O b2 hy ?_ ?_;(focus lia);cbv)|(refine Ex.swp O b2 hy (by assumption) rfl ?_ ?_;(focus lia);cbv)|(refine CallThen.mk _ _ (C.fn (kc)) ?_;cbv)|(refine Back.to (j+1,swp h j (j-1)) [] [] ?_ fun _ _=>?_;rotate_left;cbv)|(refine Nl fun _ _ hq=>?_;(try simp only [lenS] at hq);cbv)|(refine Nm fun _ _=>?_;cbv)|(refine Br.t ?_ ?_;(focus first|assumption|lia);cbv)|(refine Need.mk ?_ ?_;rotate_left;cbv))
         all_goals first
          | (rename_i y' hy';subst hy';refine⟨WkR.of_eq (swp_rows O b1 b2 hx hy (by assumption) (by assumption) rfl rfl (by lia) (by lia)).symm,?_,trivial⟩;(clear hx hy kc hyes;lia))
          | exact⟨⟨by dsimp only;omega,by dsimp only;omega,by dsimp only;omega,hyes⟩,by dsimp only;omega⟩
          | (clear hx hy kc hyes;lia)
          | trace_state
        ·have hno:=hno hs
         subst hno
         clear hyes
         (repeat' first|(refine Na ?_ fun _ _=>?_;(focus lia);cbv)|(refine Ex.arr O b1 hx ?_ ?_;(focus lia);cbv)|(refine Ex.arr O b2 hy ?_ ?_;(focus lia);cbv)|(refine CallThen.mk _ _ (C.fn (kc)) ?_;cbv)|(refine Back.to (t+1,k,h) [] [] ?_ fun _ _=>?_;rotate_left;cbv)|(refine Nm fun _ _=>?_;cbv)|(refine Br.t ?_ ?_;(focus first|assumption|lia);cbv)|(refine Br.f ?_ ?_;(focus first|assumption|lia);cbv)|(refine Need.mk ?_ ?_;rotate_left;cbv))
         all_goals first
          | (rename_i y' hy';subst hy';refine⟨WkR.refl _,?_,?_,trivial⟩<;>(clear hx hy kc hat;lia))
          | exact⟨⟨by dsimp only;omega,by dsimp only;omega,by dsimp only;omega,q3,hat.symm⟩,by dsimp only;omega⟩
          | (clear hx hy kc hat;lia)
          | trace_state
       ·have hno:h=D3:=by rw[← q4,shiftU_stop fun q=>absurd q hj]
        subst hno
        clear q4
        (repeat' first|(refine Na ?_ fun _ _=>?_;(focus lia);cbv)|(refine Back.to (t+1,k,h) [] [] ?_ fun _ _=>?_;rotate_left;cbv)|(refine Br.f ?_ ?_;(focus first|assumption|lia);cbv))
        all_goals first
         | (rename_i y' hy';subst hy';refine⟨WkR.refl _,?_,?_,trivial⟩<;>(clear hat;lia))
         | exact⟨⟨by dsimp only;omega,by dsimp only;omega,by dsimp only;omega,q3,hat.symm⟩,by dsimp only;omega⟩
         | (clear hat;lia)
         | trace_state
      ·rw[if_neg hbk] at hD3
       replace hD3:=hD3.symm
       subst hD3
       (repeat' first|(refine Na ?_ fun _ _=>?_;(focus lia);cbv)|(refine Ex.arr O b1 hx ?_ ?_;(focus lia);cbv)|(refine Nm fun _ _=>?_;cbv)|(refine Br.t ?_ ?_;(focus first|assumption|lia);cbv)|(refine Need.mk ?_ ?_;rotate_left;cbv))
       all_goals first
        | (rename_i y' hy';subst hy';refine⟨WkR.refl _,?_,?_,trivial⟩<;>(clear hat;lia))
        | exact⟨⟨by dsimp only;omega,by dsimp only;omega,by dsimp only;omega,g2,hat.symm⟩,by dsimp only;omega⟩
        | (clear hat;lia)
        | (clear hat hx hy kc hsw;lia)
        | trace_state
   ·have hgo:=hgo hs
    clear hstop hat
    (repeat' first|(refine Na ?_ fun _ _=>?_;(focus lia);cbv)|(refine Ex.arr O b1 hx ?_ ?_;(focus lia);cbv)|(refine Ex.arr O b2 hy ?_ ?_;(focus lia);cbv)|(refine CallThen.mk _ _ (C.fn (kc)) ?_;cbv)|(refine Back.to (k+1) [] [] ?_ fun _ _=>?_;rotate_left;cbv)|(refine Nm fun _ _=>?_;cbv)|(refine Br.t ?_ ?_;(focus first|assumption|lia);cbv)|(refine Br.f ?_ ?_;(focus first|assumption|lia);cbv)|(refine Need.mk ?_ ?_;rotate_left;cbv))
    all_goals first
     | (rename_i y' hy';subst hy';refine⟨WkR.refl _,?_,trivial⟩;(clear hx hy kc hgo;lia))
     | exact⟨⟨by dsimp only;omega,by dsimp only;omega,hgo⟩,by dsimp only;omega⟩
     | (clear hx hy kc hgo;lia)
     | trace_state
  ·have hk3:k=I2:=by rw[← k2];exact(scanS_stop fun h=>absurd h hkb).symm
   subst hk3
   clear k2
   rw[if_pos (by omega)] at hat
   cases hat
   (repeat' first|(refine Br.t ?_ ?_;(focus first|assumption|lia);cbv)|(refine Br.f ?_ ?_;(focus first|assumption|lia);cbv)|(refine R0 ?_;cbv))
   all_goals first
    | ((repeat' apply And.intro)<;>first|exact True.intro|rfl|exact WkR.refl _|lia)
    | lia
    | trace_state
 ·rw[show 5-t=0 by omega] at g3
  cases g3
  (repeat' first|(refine Br.f ?_ ?_;(focus first|assumption|lia);cbv)|(refine R0 ?_;cbv))
  all_goals first
   | ((repeat' apply And.intro)<;>first|exact True.intro|rfl|exact WkR.refl _|lia)
   | lia
   | trace_state
end Go.Sym
