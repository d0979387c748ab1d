/- Sorting pairs: parted by the pivot. -/
import Derived.Test.YtjlefaabcalkkaaGreatDoorK15
set_option linter.all false
set_option linter.unusedVariables false
set_option linter.unusedSimpArgs false
namespace Go.Sym
open Go Go.Proofs.Tryz
set_option maxRecDepth 100000
open Go.Sort (swp scanUp scanDown partLoop partition)
theorem part_at {d:Array PairK} {a i j u w:Nat} (hu:u=scanUp (fun x=>ltP x d[a]!) d j i) (hw:w=scanDown (fun x=>!ltP x d[a]!) d u j) (h1:i≤u) (h2:w≤j) (h3:1≤i) :
  partLoop ltP a i j d=if u > w then(w,d) else partLoop ltP a (u+1) (w-1) (swp d u w):=by
 rw[partLoop]
 simp only [← hu,← hw]
 split
 ·rfl
 ·rw[dif_pos (by omega)]
theorem part_size (a:Nat):∀ (m i j:Nat) (d:Array PairK),j+1-i≤m→(partLoop ltP a i j d).2.size=d.size:=by
 intro m
 induction m using Nat.strongRecOn with
 | ind m ih =>
  intro i j d h
  rw[partLoop]
  split
  ·rfl
  ·split
   ·rename_i h1 h2
    rw[ih _ (by omega) _ _ _ (Nat.le_refl _),swp_size]
   ·rfl
theorem partition_at {d f:Array PairK} {a b p i j u w:Nat} (hf:f=swp d a p) (hi:i=a+1) (hj:j=b-1) (hu:u=scanUp (fun x=>ltP x f[a]!) f j i) (hw:w=scanDown (fun x=>!ltP x f[a]!) f u j) :
  Go.Sort.partition ltP d a b p=if u > w then(w,true,swp f w a) else((partLoop ltP a (u+1) (w-1) (swp f u w)).1,false,swp (partLoop ltP a (u+1) (w-1) (swp f u w)).2 (partLoop ltP a (u+1) (w-1) (swp f u w)).1 a):=by
 subst hi hj hf
 unfold Go.Sort.partition
 simp only [← hu,← hw]
set_option maxHeartbeats 16000000 in
theorem partition_fn (O:Opq) (d:Array PairK) (a b p:Nat) (ai bi pi mi:Int) (t:Bool) (hai:ai=a) (hbi:bi=b) (hpi:pi=p) (hmi:mi=(Go.Sort.partition ltP d a b p).1) (ht:t=(Go.Sort.partition ltP d a b p).2.1) (hb:b≤d.size) (ha:a<b) (hp:p<b) (hd:d.size≤1000000) :
  Fn prog 86 [.ref 0,.int .i64 ai,.int .i64 bi,.int .i64 pi,.fn 35 [] []] [.arr 0 none 2 (O.o arrE d)] [.int .i64 mi,.bool t] [.arr 0 none 2 (O.o arrE (Go.Sort.partition ltP d a b p).2.2)]:=by
 obtain⟨R,hR⟩:∃ R,R=Go.Sort.partition ltP d a b p:=⟨_,rfl⟩
 rw[← hR] at hmi ht ⊢
 obtain⟨f,hE⟩:∃ E,E=swp d a p:=⟨_,rfl⟩
 obtain⟨i,hi⟩:∃ i,i=a+1:=⟨_,rfl⟩
 obtain⟨j,hj⟩:∃ i,i=b-1:=⟨_,rfl⟩
 have hat:=hR.trans (partition_at hE hi hj rfl rfl)
 have hsz:=swp_size d a p
 obtain⟨x,hx⟩:∃ x,x=d[a]!:=⟨_,rfl⟩
 obtain⟨y,hy⟩:∃ y,y=d[p]!:=⟨_,rfl⟩
 have b1:a<d.size:=by omega
 have b2:p<d.size:=by omega
 have hsw:=@swp_rows O d a p x y b1 b2 hx hy
 rw[← hE] at hsz hsw
 obtain⟨n,hn⟩:∃ n,n=d.size:=⟨_,rfl⟩
 have hb:b≤n:=by omega
 have han:a<n:=by omega
 have hpn:p<n:=by omega
 have hd:n≤1000000:=by omega
 have hlen:=arrE_len O d
 have g0:1≤i:=by omega
 have g1:j<n:=by omega
 have g2:f.size=n:=by omega
 clear hR hE
 obtain⟨xa,xb⟩:=x
 obtain⟨ya,yb⟩:=y
 refine go (fn:=Proofs.Tryz.f86) (n:=173) (rv:=[ResultVar.tmp 10,ResultVar.tmp 11]) rfl (by decide) rfl (by decide +kernel) rfl rfl (by simp) fun F L C=>?_
 cbv
 (repeat' first|(refine Na ?_ fun _ _=>?_;(focus lia);cbv)|(refine Ex.arr O b1 hx ?_ ?_;(focus lia);cbv)|(refine Ex.arr O b2 hy ?_ ?_;(focus lia);cbv)|(refine Ex.swp O b2 hy (by assumption) rfl ?_ ?_;(focus lia);cbv)|(refine Nl fun _ _ hq=>?_;(try simp only [lenS] at hq);cbv)|(refine Nm fun _ _=>?_;cbv)|(refine Need.mk ?_ ?_;rotate_left;cbv))
 all_goals try(clear hx hy hsw hat;lia)
 obtain rfl:=hsw (by assumption) (by assumption) rfl rfl (by lia) (by lia)
 clear hsw hx hy hlen b1 b2
 rename_i e6
 obtain⟨v,hv⟩:∃ v,v=f[a]!:=⟨_,rfl⟩
 have b0:a<f.size:=by omega
 rw[← hv] at hat
 obtain⟨va,vb⟩:=v
 have e7:=trivial
 obtain⟨I2,hI2⟩:∃ u,u=scanUp (fun x=>ltP x (⟨va,vb⟩:PairK)) f j i:=⟨_,rfl⟩
 obtain⟨J2,hJ2⟩:∃ u,u=scanDown (fun x=>!ltP x (⟨va,vb⟩:PairK)) f I2 j:=⟨_,rfl⟩
 obtain⟨k0,hk0⟩:∃ k0:Nat,k0=i:=⟨_,rfl⟩
 have hk:i≤k0∧scanUp (fun x=>ltP x (⟨va,vb⟩:PairK)) f j k0=I2:=by rw[hk0];exact⟨Nat.le_refl _,hI2.symm⟩
 have hlen:=arrE_len O f
 rw[← hI2,← hJ2] at hat
 clear hI2
 skip
 refine LoopThen.mk (C.loopAt (ι:=Nat) [(12,12),(14,177)] (fun k=>[(12,.int .i64 k)]) (fun _=>[(0,.arr 0 none 2 (O.o arrE f))])
  (fun k=>i≤k∧scanUp (fun x=>ltP x (⟨va,vb⟩:PairK)) f j k=I2) (fun k=>j+1-k) (by decide +kernel) (Start.mk k0 [] [] hk ?_) ?_)
 ·cbv
  (repeat' apply And.intro)<;>first|exact True.intro|exact WkR.refl _|rfl|(clear hk hv hat hJ2 e6;lia)|trace_state
 intro k g
 cbv
 have k1:i≤k:=g.1
 have k2:scanUp (fun x=>ltP x (⟨va,vb⟩:PairK)) f j k=I2:=g.2
 clear g hk hk0
 by_cases hkj:k≤j
 ·obtain⟨x,hx⟩:∃ x,x=f[k]!:=⟨_,rfl⟩
  have b1:k<f.size:=by omega
  have kc:=order_fn O x ⟨va,vb⟩
  have hgo: O.o (ordI x) (⟨va,vb⟩:PairK)<0→scanUp (fun x=>ltP x (⟨va,vb⟩:PairK)) f j (k+1)=I2:=fun h=>by rw[← k2];exact(scanUp_go hkj (by rw[O.h] at h;rw[← hx];simpa [ltP] using h)).symm
  have hstop:¬  O.o (ordI x) (⟨va,vb⟩:PairK)<0→k=I2:=fun h=>by rw[← k2];exact(scanUp_stop fun _=>(by rw[O.h] at h;rw[← hx];simpa [ltP] using h)).symm
  obtain⟨S,hS⟩:∃ S,S=O.o (ordI x) (⟨va,vb⟩:PairK):=⟨_,rfl⟩
  rw[← hS] at kc hgo hstop
  clear hS k2
  obtain⟨xa,xb⟩:=x
  by_cases hs: S<0
  ·have hgo:=hgo hs
   clear hstop hat e6
   (repeat' first|(refine Na ?_ fun _ _=>?_;(focus lia);cbv)|(refine Ex.arr O b0 hv ?_ ?_;(focus lia);cbv)|(refine Ex.arr O b1 hx ?_ ?_;(focus lia);cbv)|(refine CallThen.mk _ _ (C.fn (kc)) ?_;cbv)|(refine Back.to (k+1) [] [] ?_ fun _ _=>?_;rotate_left;cbv)|(refine Nm fun _ _=>?_;cbv)|(refine Br.t ?_ ?_;(focus first|assumption|lia);cbv)|(refine Need.mk ?_ ?_;rotate_left;cbv))
   all_goals first
    | (rename_i y' hy';subst hy';refine⟨WkR.refl _,?_,trivial⟩;clear hx hv kc hgo hJ2;lia)
    | exact⟨⟨by omega,hgo⟩,by dsimp only;omega⟩
    | (clear hx hv kc hgo hJ2;lia)
    | trace_state
  ·have hstop:=hstop hs
   subst hstop
   clear hgo
   (repeat' first|(refine Ex.arr O b0 hv ?_ ?_;(focus lia);cbv)|(refine Ex.arr O b1 hx ?_ ?_;(focus lia);cbv)|(refine CallThen.mk _ _ (C.fn (kc)) ?_;cbv)|(refine Nm fun _ _=>?_;cbv)|(refine Br.t ?_ ?_;(focus first|assumption|lia);cbv)|(refine Br.f ?_ ?_;(focus first|assumption|lia);cbv)|(refine Need.mk ?_ ?_;rotate_left;cbv))
   all_goals try(clear hx hv kc hJ2 hat e6;lia)
   clear kc hx b1 hs
   obtain⟨m0,hm0⟩:∃ m0:Nat,m0=j:=⟨_,rfl⟩
   have hm:m0≤j∧scanDown (fun x=>!ltP x (⟨va,vb⟩:PairK)) f k m0=J2:=by rw[hm0];exact⟨Nat.le_refl _,hJ2.symm⟩
   clear hJ2
   refine LoopThen.mk (C.loopAt (ι:=Nat) [(13,13),(14,177)] (fun m=>[(13,.int .i64 m)]) (fun _=>[(0,.arr 0 none 2 (O.o arrE f))])
    (fun m=>m≤j∧scanDown (fun x=>!ltP x (⟨va,vb⟩:PairK)) f k m=J2) (fun m=>m) (by decide +kernel) (Start.mk m0 [] [] hm ?_) ?_)
   ·cbv
    (repeat' apply And.intro)<;>first|exact True.intro|exact WkR.refl _|rfl|(clear hm hv hat e6;lia)|trace_state
   intro m g
   cbv
   have m1:m≤j:=g.1
   have m2:scanDown (fun x=>!ltP x (⟨va,vb⟩:PairK)) f k m=J2:=g.2
   clear g hm hm0
   by_cases hkm:k≤m
   ·obtain⟨y,hy⟩:∃ y,y=f[m]!:=⟨_,rfl⟩
    have b2:m<f.size:=by omega
    have kd:=order_fn O y ⟨va,vb⟩
    have hgo:¬ O.o (ordI y) (⟨va,vb⟩:PairK)<0→scanDown (fun x=>!ltP x (⟨va,vb⟩:PairK)) f k (m-1)=J2:=fun h=>by rw[← m2];exact(scanDown_go hkm (by omega) (by rw[O.h] at h;rw[← hy];simpa [ltP] using h)).symm
    have hstop:¬ ¬ O.o (ordI y) (⟨va,vb⟩:PairK)<0→m=J2:=fun h=>by rw[← m2];exact(scanDown_stop fun _=>(by rw[O.h] at h;rw[← hy];simpa [ltP] using h)).symm
    obtain⟨S2,hS⟩:∃ S,S=O.o (ordI y) (⟨va,vb⟩:PairK):=⟨_,rfl⟩
    rw[← hS] at kd hgo hstop
    clear hS m2
    obtain⟨ya,yb⟩:=y
    by_cases hs:¬ S2<0
    ·have hgo:=hgo hs
     clear hstop hat e6
     (repeat' first|(refine Na ?_ fun _ _=>?_;(focus lia);cbv)|(refine Ex.arr O b0 hv ?_ ?_;(focus lia);cbv)|(refine Ex.arr O b2 hy ?_ ?_;(focus lia);cbv)|(refine CallThen.mk _ _ (C.fn (kd)) ?_;cbv)|(refine Back.to (m-1) [] [] ?_ fun _ _=>?_;rotate_left;cbv)|(refine Nm fun _ _=>?_;cbv)|(refine Br.t ?_ ?_;(focus first|assumption|lia);cbv)|(refine Br.f ?_ ?_;(focus first|assumption|lia);cbv)|(refine Need.mk ?_ ?_;rotate_left;cbv))
     all_goals first
      | (rename_i y' hy';subst hy';refine⟨WkR.refl _,?_,trivial⟩;clear hy hv kd hgo;lia)
      | exact⟨⟨by omega,hgo⟩,by dsimp only;omega⟩
      | (clear hy hv kd hgo;lia)
      | trace_state
    ·have hstop:=hstop hs
     subst hstop
     clear hgo
     obtain⟨x,hx⟩:∃ x,x=f[k]!:=⟨_,rfl⟩
     have b1:k<f.size:=by omega
     obtain⟨xa,xb⟩:=x
     rw[if_neg (by omega)] at hat
     have hsz:=swp_size f k m
     have hsw:=@swp_rows O f k m _ _ b1 b2 hx hy
     obtain⟨V,hV⟩:∃ V,V=swp f k m:=⟨_,rfl⟩
     rw[← hV] at hsz hsw hat
     obtain⟨Q,hQ⟩:∃ Q,Q=partLoop ltP a (k+1) (m-1) V:=⟨_,rfl⟩
     rw[← hQ] at hat
     (repeat' first|(refine Na ?_ fun _ _=>?_;(focus lia);cbv)|(refine Ex.arr O b0 hv ?_ ?_;(focus lia);cbv)|(refine Ex.arr O b1 hx ?_ ?_;(focus lia);cbv)|(refine Ex.arr O b2 hy ?_ ?_;(focus lia);cbv)|(refine Ex.swp O b2 hy (by assumption) rfl ?_ ?_;(focus lia);cbv)|(refine CallThen.mk _ _ (C.fn (kd)) ?_;cbv)|(refine Nl fun _ _ hq=>?_;(try simp only [lenS] at hq);cbv)|(refine Nm fun _ _=>?_;cbv)|(refine Br.t ?_ ?_;(focus first|assumption|lia);cbv)|(refine Br.f ?_ ?_;(focus first|assumption|lia);cbv)|(refine Need.mk ?_ ?_;rotate_left;cbv))
     all_goals try(clear hx hy hv kd hsw hat hQ;lia)
     obtain rfl:=hsw (by assumption) (by assumption) rfl rfl (by lia) (by lia)
     obtain⟨z,hz⟩:∃ z:Nat×Nat×Array PairK,z=(k+1,m-1,V):=⟨_,rfl⟩
     have z1:z.1=k+1:=by rw[hz]
     have z3:z.2.1=m-1:=by rw[hz]
     have z2:O.o arrE V=O.o arrE z.2.2:=by rw[hz]
     have hz0:1≤z.1∧z.2.1<n∧z.2.2.size=n∧partLoop ltP a z.1 z.2.1 z.2.2=Q:=by rw[hz];exact⟨by dsimp only;omega,by dsimp only;omega,by dsimp only;omega,hQ.symm⟩
     clear hz hQ hV hlen hsw hx hy hv kd
     refine LoopThen.mk (C.loopAt (ι:=Nat×Nat×Array PairK) [(12,177)] (fun x=>[(12,.int .i64 x.1),(13,.int .i64 x.2.1)]) (fun x=>[(0,.arr 0 none 2 (O.o arrE x.2.2))])
      (fun x=>1≤x.1∧x.2.1<n∧x.2.2.size=n∧partLoop ltP a x.1 x.2.1 x.2.2=Q) (fun x=>x.2.1+1-x.1) (by decide +kernel) (Start.mk z [] [] hz0 ?_) ?_)
     ·cbv
      (repeat' apply And.intro)<;>first|exact True.intro|exact WkR.refl _|exact WkR.of_eq z2.symm|rfl|(clear hz0 z2 hat;lia)|trace_state
     have hR:=hat
     clear hat z1 z2 z3 hz0 b0 b1 b2 g0 g1 g2 hsz m1 k1
     intro x g
     obtain⟨i,j,f⟩:=x
     cbv
     have g0:1≤i:=g.1
     have g1:j<n:=g.2.1
     have g2:f.size=n:=g.2.2.1
     have g3:partLoop ltP a i j f=Q:=g.2.2.2
     clear g
     have hat:=@part_at f a i j _ _ rfl rfl (scanUp_ge _ _ _ _ _ (Nat.le_refl _)) (scanDown_le _ _ _ _) g0
     rw[g3] at hat
     clear g3
     obtain⟨v,hv⟩:∃ v,v=f[a]!:=⟨_,rfl⟩
     have b0:a<f.size:=by omega
     rw[← hv] at hat
     obtain⟨va,vb⟩:=v
     obtain⟨I2,hI2⟩:∃ u,u=scanUp (fun x=>ltP x (⟨va,vb⟩:PairK)) f j i:=⟨_,rfl⟩
     obtain⟨J2,hJ2⟩:∃ u,u=scanDown (fun x=>!ltP x (⟨va,vb⟩:PairK)) f I2 j:=⟨_,rfl⟩
     obtain⟨k0,hk0⟩:∃ k0:Nat,k0=i:=⟨_,rfl⟩
     have hk:i≤k0∧scanUp (fun x=>ltP x (⟨va,vb⟩:PairK)) f j k0=I2:=by rw[hk0];exact⟨Nat.le_refl _,hI2.symm⟩
     have hlen:=arrE_len O f
     rw[← hI2,← hJ2] at hat
     clear hI2
     skip
     refine LoopThen.mk (C.loopAt (ι:=Nat) [(12,12),(14,177)] (fun k=>[(12,.int .i64 k)]) (fun _=>[(0,.arr 0 none 2 (O.o arrE f))])
      (fun k=>i≤k∧scanUp (fun x=>ltP x (⟨va,vb⟩:PairK)) f j k=I2) (fun k=>j+1-k) (by decide +kernel) (Start.mk k0 [] [] hk ?_) ?_)
     ·cbv
      (repeat' apply And.intro)<;>first|exact True.intro|exact WkR.refl _|rfl|(clear hk hv hat hJ2 hR e6 e7;lia)|trace_state
     intro k g
     cbv
     have k1:i≤k:=g.1
     have k2:scanUp (fun x=>ltP x (⟨va,vb⟩:PairK)) f j k=I2:=g.2
     clear g hk hk0
     by_cases hkj:k≤j
     ·obtain⟨x,hx⟩:∃ x,x=f[k]!:=⟨_,rfl⟩
      have b1:k<f.size:=by omega
      have kc:=order_fn O x ⟨va,vb⟩
      have hgo: O.o (ordI x) (⟨va,vb⟩:PairK)<0→scanUp (fun x=>ltP x (⟨va,vb⟩:PairK)) f j (k+1)=I2:=fun h=>by rw[← k2];exact(scanUp_go hkj (by rw[O.h] at h;rw[← hx];simpa [ltP] using h)).symm
      have hstop:¬  O.o (ordI x) (⟨va,vb⟩:PairK)<0→k=I2:=fun h=>by rw[← k2];exact(scanUp_stop fun _=>(by rw[O.h] at h;rw[← hx];simpa [ltP] using h)).symm
      obtain⟨S,hS⟩:∃ S,S=O.o (ordI x) (⟨va,vb⟩:PairK):=⟨_,rfl⟩
      rw[← hS] at kc hgo hstop
      clear hS k2
      obtain⟨xa,xb⟩:=x
      by_cases hs: S<0
      ·have hgo:=hgo hs
       clear hstop hat hR e6 e7
       (repeat' first|(refine Na ?_ fun _ _=>?_;(focus lia);cbv)|(refine Ex.arr O b0 hv ?_ ?_;(focus lia);cbv)|(refine Ex.arr O b1 hx ?_ ?_;(focus lia);cbv)|(refine CallThen.mk _ _ (C.fn (kc)) ?_;cbv)|(refine Back.to (k+1) [] [] ?_ fun _ _=>?_;rotate_left;cbv)|(refine Nm fun _ _=>?_;cbv)|(refine Br.t ?_ ?_;(focus first|assumption|lia);cbv)|(refine Need.mk ?_ ?_;rotate_left;cbv))
       all_goals first
        | (rename_i y' hy';subst hy';refine⟨WkR.refl _,?_,trivial⟩;clear hx hv kc hgo hJ2;lia)
        | exact⟨⟨by omega,hgo⟩,by dsimp only;omega⟩
        | (clear hx hv kc hgo hJ2;lia)
        | trace_state
      ·have hstop:=hstop hs
       subst hstop
       clear hgo
       (repeat' first|(refine Ex.arr O b0 hv ?_ ?_;(focus lia);cbv)|(refine Ex.arr O b1 hx ?_ ?_;(focus lia);cbv)|(refine CallThen.mk _ _ (C.fn (kc)) ?_;cbv)|(refine Nm fun _ _=>?_;cbv)|(refine Br.t ?_ ?_;(focus first|assumption|lia);cbv)|(refine Br.f ?_ ?_;(focus first|assumption|lia);cbv)|(refine Need.mk ?_ ?_;rotate_left;cbv))
       all_goals try(clear hx hv kc hJ2 hat hR e6 e7;lia)
       clear kc hx b1 hs
       obtain⟨m0,hm0⟩:∃ m0:Nat,m0=j:=⟨_,rfl⟩
       have hm:m0≤j∧scanDown (fun x=>!ltP x (⟨va,vb⟩:PairK)) f k m0=J2:=by rw[hm0];exact⟨Nat.le_refl _,hJ2.symm⟩
       clear hJ2
       refine LoopThen.mk (C.loopAt (ι:=Nat) [(13,13),(14,177)] (fun m=>[(13,.int .i64 m)]) (fun _=>[(0,.arr 0 none 2 (O.o arrE f))])
        (fun m=>m≤j∧scanDown (fun x=>!ltP x (⟨va,vb⟩:PairK)) f k m=J2) (fun m=>m) (by decide +kernel) (Start.mk m0 [] [] hm ?_) ?_)
       ·cbv
        (repeat' apply And.intro)<;>first|exact True.intro|exact WkR.refl _|rfl|(clear hm hv hat hR e6 e7;lia)|trace_state
       intro m g
       cbv
       have m1:m≤j:=g.1
       have m2:scanDown (fun x=>!ltP x (⟨va,vb⟩:PairK)) f k m=J2:=g.2
       clear g hm hm0
       by_cases hkm:k≤m
       ·obtain⟨y,hy⟩:∃ y,y=f[m]!:=⟨_,rfl⟩
        have b2:m<f.size:=by omega
        have kd:=order_fn O y ⟨va,vb⟩
        have hgo:¬ O.o (ordI y) (⟨va,vb⟩:PairK)<0→scanDown (fun x=>!ltP x (⟨va,vb⟩:PairK)) f k (m-1)=J2:=fun h=>by rw[← m2];exact(scanDown_go hkm (by omega) (by rw[O.h] at h;rw[← hy];simpa [ltP] using h)).symm
        have hstop:¬ ¬ O.o (ordI y) (⟨va,vb⟩:PairK)<0→m=J2:=fun h=>by rw[← m2];exact(scanDown_stop fun _=>(by rw[O.h] at h;rw[← hy];simpa [ltP] using h)).symm
        obtain⟨S2,hS⟩:∃ S,S=O.o (ordI y) (⟨va,vb⟩:PairK):=⟨_,rfl⟩
        rw[← hS] at kd hgo hstop
        clear hS m2
        obtain⟨ya,yb⟩:=y
        by_cases hs:¬ S2<0
        ·have hgo:=hgo hs
         clear hstop hat hR e6 e7
         (repeat' first|(refine Na ?_ fun _ _=>?_;(focus lia);cbv)|(refine Ex.arr O b0 hv ?_ ?_;(focus lia);cbv)|(refine Ex.arr O b2 hy ?_ ?_;(focus lia);cbv)|(refine CallThen.mk _ _ (C.fn (kd)) ?_;cbv)|(refine Back.to (m-1) [] [] ?_ fun _ _=>?_;rotate_left;cbv)|(refine Nm fun _ _=>?_;cbv)|(refine Br.t ?_ ?_;(focus first|assumption|lia);cbv)|(refine Br.f ?_ ?_;(focus first|assumption|lia);cbv)|(refine Need.mk ?_ ?_;rotate_left;cbv))
         all_goals first
          | (rename_i y' hy';subst hy';refine⟨WkR.refl _,?_,trivial⟩;clear hy hv kd hgo;lia)
          | exact⟨⟨by omega,hgo⟩,by dsimp only;omega⟩
          | (clear hy hv kd hgo;lia)
          | trace_state
        ·have hstop:=hstop hs
         subst hstop
         clear hgo
         obtain⟨x,hx⟩:∃ x,x=f[k]!:=⟨_,rfl⟩
         have b1:k<f.size:=by omega
         obtain⟨xa,xb⟩:=x
         rw[if_neg (by omega)] at hat
         have hsz:=swp_size f k m
         (repeat' first|(refine Na ?_ fun _ _=>?_;(focus lia);cbv)|(refine Ex.arr O b0 hv ?_ ?_;(focus lia);cbv)|(refine Ex.arr O b1 hx ?_ ?_;(focus lia);cbv)|(refine Ex.arr O b2 hy ?_ ?_;(focus lia);cbv)|(refine Ex.swp O b2 hy (by assumption) rfl ?_ ?_;(focus lia);cbv)|(refine CallThen.mk _ _ (C.fn (kd)) ?_;cbv)|(refine Back.to (k+1,m-1,swp f k m) [] [] ?_ fun _ _=>?_;rotate_left;cbv)|(refine Nl fun _ _ hq=>?_;(try simp only [lenS] at hq);cbv)|(refine Nm fun _ _=>?_;cbv)|(refine Br.t ?_ ?_;(focus first|assumption|lia);cbv)|(refine Br.f ?_ ?_;(focus first|assumption|lia);cbv)|(refine Need.mk ?_ ?_;rotate_left;cbv))
         all_goals first
          | (rename_i y' hy';subst hy';refine⟨WkR.of_eq (swp_rows O b1 b2 hx hy (by assumption) (by assumption) rfl rfl (by lia) (by lia)).symm,?_,?_,trivial⟩<;>(clear hx hy hv kd hat hR e6 e7;lia))
          | exact⟨⟨by dsimp only;omega,by dsimp only;omega,by dsimp only;omega,hat.symm⟩,by dsimp only;omega⟩
          | (clear hx hy hv kd hat hR e6 e7;lia)
          | trace_state
       ·have hm3:m=J2:=by rw[← m2];exact(scanDown_stop fun h=>absurd h hkm).symm
        subst hm3
        clear m2
        have kd:=trivial
        rw[if_pos (by omega)] at hat
        subst hat
        replace hR:R=(m,false,swp f m a):=hR
        obtain⟨y,hy⟩:∃ y,y=f[m]!:=⟨_,rfl⟩
        have b2:m<f.size:=by omega
        have hsw:=@swp_rows O f m a _ _ b2 b0 hy hv
        obtain⟨V2,hV⟩:∃ V,V=swp f m a:=⟨_,rfl⟩
        rw[← hV] at hR hsw
        clear hV
        subst hR
        replace hmi:mi=m:=hmi
        replace ht:t=false:=ht
        subst ht
        obtain⟨ya,yb⟩:=y
        (repeat' first|(refine Ex.arr O b0 hv ?_ ?_;(focus lia);cbv)|(refine Ex.arr O b2 hy ?_ ?_;(focus lia);cbv)|(refine Ex.swp O b0 hv (by assumption) rfl ?_ ?_;(focus lia);cbv)|(refine Nl fun _ _ hq=>?_;(try simp only [lenS] at hq);cbv)|(refine Nm fun _ _=>?_;cbv)|(refine Br.t ?_ ?_;(focus first|assumption|lia);cbv)|(refine Br.f ?_ ?_;(focus first|assumption|lia);cbv)|(refine Need.mk ?_ ?_;rotate_left;cbv)|(refine R0 ?_;cbv))
        all_goals first
         | ((repeat' apply And.intro)<;>first|exact True.intro|rfl|exact(WkR.of_eq (hsw (by assumption) (by assumption) rfl rfl (by lia) (by lia)).symm)|(clear hv hy kd hsw e6 e7;lia))
         | (clear hv hy kd hsw e6 e7;lia)
         | trace_state
     ·have hk3:k=I2:=by rw[← k2];exact(scanUp_stop fun h=>absurd h hkj).symm
      subst hk3
      clear k2
      have hj3:j=J2:=by rw[hJ2];exact(scanDown_stop fun h=>absurd h hkj).symm
      subst hj3
      clear hJ2
      (repeat' first|(refine Br.f ?_ ?_;(focus first|assumption|lia);cbv))
      obtain⟨m0,hm0⟩:∃ m0:Nat,m0=j:=⟨_,rfl⟩
      refine LoopThen.mk (C.loopAt (ι:=Nat) [(13,13),(14,177)] (fun m=>[(13,.int .i64 m)]) (fun _=>[(0,.arr 0 none 2 (O.o arrE f))])
       (fun m=>m=j) (fun m=>m) (by decide +kernel) (Start.mk m0 [] [] hm0 ?_) ?_)
      ·cbv
       (repeat' apply And.intro)<;>first|exact True.intro|exact WkR.refl _|rfl|(clear hv hat hR e6 e7;lia)|trace_state
      intro m g
      cbv
      have m1:m≤j:=Nat.le_of_eq g
      have g:m=j:=g
      subst g
      clear hm0
      have kd:=trivial
      rw[if_pos (by omega)] at hat
      subst hat
      replace hR:R=(m,false,swp f m a):=hR
      obtain⟨y,hy⟩:∃ y,y=f[m]!:=⟨_,rfl⟩
      have b2:m<f.size:=by omega
      have hsw:=@swp_rows O f m a _ _ b2 b0 hy hv
      obtain⟨V2,hV⟩:∃ V,V=swp f m a:=⟨_,rfl⟩
      rw[← hV] at hR hsw
      clear hV
      subst hR
      replace hmi:mi=m:=hmi
      replace ht:t=false:=ht
      subst ht
      obtain⟨ya,yb⟩:=y
      (repeat' first|(refine Ex.arr O b0 hv ?_ ?_;(focus lia);cbv)|(refine Ex.arr O b2 hy ?_ ?_;(focus lia);cbv)|(refine Ex.swp O b0 hv (by assumption) rfl ?_ ?_;(focus lia);cbv)|(refine Nl fun _ _ hq=>?_;(try simp only [lenS] at hq);cbv)|(refine Nm fun _ _=>?_;cbv)|(refine Br.t ?_ ?_;(focus first|assumption|lia);cbv)|(refine Br.f ?_ ?_;(focus first|assumption|lia);cbv)|(refine Need.mk ?_ ?_;rotate_left;cbv)|(refine R0 ?_;cbv))
      all_goals first
       | ((repeat' apply And.intro)<;>first|exact True.intro|rfl|exact(WkR.of_eq (hsw (by assumption) (by assumption) rfl rfl (by lia) (by lia)).symm)|(clear hv hy kd hsw e6 e7;lia))
       | (clear hv hy kd hsw e6 e7;lia)
       | trace_state
   ·have hm3:m=J2:=by rw[← m2];exact(scanDown_stop fun h=>absurd h hkm).symm
    subst hm3
    clear m2
    have kd:=trivial
    rw[if_pos (by omega)] at hat
    obtain⟨y,hy⟩:∃ y,y=f[m]!:=⟨_,rfl⟩
    have b2:m<f.size:=by omega
    have hsw:=@swp_rows O f m a _ _ b2 b0 hy hv
    obtain⟨V,hV⟩:∃ V,V=swp f m a:=⟨_,rfl⟩
    rw[← hV] at hat hsw
    clear hV
    subst hat
    replace hmi:mi=m:=hmi
    replace ht:t=true:=ht
    subst ht
    obtain⟨ya,yb⟩:=y
    (repeat' first|(refine Ex.arr O b0 hv ?_ ?_;(focus lia);cbv)|(refine Ex.arr O b2 hy ?_ ?_;(focus lia);cbv)|(refine Ex.swp O b0 hv (by assumption) rfl ?_ ?_;(focus lia);cbv)|(refine Nl fun _ _ hq=>?_;(try simp only [lenS] at hq);cbv)|(refine Nm fun _ _=>?_;cbv)|(refine Br.t ?_ ?_;(focus first|assumption|lia);cbv)|(refine Br.f ?_ ?_;(focus first|assumption|lia);cbv)|(refine Need.mk ?_ ?_;rotate_left;cbv)|(refine R0 ?_;cbv))
    all_goals first
     | ((repeat' apply And.intro)<;>first|exact True.intro|rfl|exact(WkR.of_eq (hsw (by assumption) (by assumption) rfl rfl (by lia) (by lia)).symm)|(clear hv hy kd hsw;lia))
     | (clear hv hy kd hsw;lia)
     | trace_state
 ·have hk3:k=I2:=by rw[← k2];exact(scanUp_stop fun h=>absurd h hkj).symm
  subst hk3
  clear k2
  have hj3:j=J2:=by rw[hJ2];exact(scanDown_stop fun h=>absurd h hkj).symm
  subst hj3
  clear hJ2
  (repeat' first|(refine Br.f ?_ ?_;(focus first|assumption|lia);cbv))
  obtain⟨m0,hm0⟩:∃ m0:Nat,m0=j:=⟨_,rfl⟩
  refine LoopThen.mk (C.loopAt (ι:=Nat) [(13,13),(14,177)] (fun m=>[(13,.int .i64 m)]) (fun _=>[(0,.arr 0 none 2 (O.o arrE f))])
   (fun m=>m=j) (fun m=>m) (by decide +kernel) (Start.mk m0 [] [] hm0 ?_) ?_)
  ·cbv
   (repeat' apply And.intro)<;>first|exact True.intro|exact WkR.refl _|rfl|(clear hv hat e6;lia)|trace_state
  intro m g
  cbv
  have m1:m≤j:=Nat.le_of_eq g
  have g:m=j:=g
  subst g
  clear hm0
  have kd:=trivial
  rw[if_pos (by omega)] at hat
  obtain⟨y,hy⟩:∃ y,y=f[m]!:=⟨_,rfl⟩
  have b2:m<f.size:=by omega
  have hsw:=@swp_rows O f m a _ _ b2 b0 hy hv
  obtain⟨V,hV⟩:∃ V,V=swp f m a:=⟨_,rfl⟩
  rw[← hV] at hat hsw
  clear hV
  subst hat
  replace hmi:mi=m:=hmi
  replace ht:t=true:=ht
  subst ht
  obtain⟨ya,yb⟩:=y
  (repeat' first|(refine Ex.arr O b0 hv ?_ ?_;(focus lia);cbv)|(refine Ex.arr O b2 hy ?_ ?_;(focus lia);cbv)|(refine Ex.swp O b0 hv (by assumption) rfl ?_ ?_;(focus lia);cbv)|(refine Nl fun _ _ hq=>?_;(try simp only [lenS] at hq);cbv)|(refine Nm fun _ _=>?_;cbv)|(refine Br.t ?_ ?_;(focus first|assumption|lia);cbv)|(refine Br.f ?_ ?_;(focus first|assumption|lia);cbv)|(refine Need.mk ?_ ?_;rotate_left;cbv)|(refine R0 ?_;cbv))
  all_goals first
   | ((repeat' apply And.intro)<;>first|exact True.intro|rfl|exact(WkR.of_eq (hsw (by assumption) (by assumption) rfl rfl (by lia) (by lia)).symm)|(clear hv hy kd hsw;lia))
   | (clear hv hy kd hsw;lia)
   | trace_state
end Go.Sym
