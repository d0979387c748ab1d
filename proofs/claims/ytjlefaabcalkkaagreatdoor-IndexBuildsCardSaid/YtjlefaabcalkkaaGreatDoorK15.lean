/- Sorting pairs: heaps. -/
import Derived.Test.YtjlefaabcalkkaaGreatDoorK11
set_option linter.all false
set_option linter.unusedVariables false
set_option linter.unusedSimpArgs false
namespace Go.Sym
open Go Go.Proofs.Tryz
set_option maxRecDepth 100000
open Go.Sort (swp siftDown heapBuild heapPop heapSort)
theorem heapBuild_step {hi first:Nat} {k:Int} {e:Array PairK} (h:0≤k):heapBuild ltP hi first (k+1).toNat e=heapBuild ltP hi first (k-1+1).toNat (siftDown ltP hi first k.toNat e):=by
 obtain⟨m,rfl⟩:=Int.eq_ofNat_of_zero_le h
 rw[show((m:Int)+1).toNat=m+1 by omega,show((m:Int)-1+1).toNat=m by omega,show(m:Int).toNat=m by omega]
 rfl
theorem heapBuild_end {hi first:Nat} {k:Int} {e:Array PairK} (h:k<0):heapBuild ltP hi first (k+1).toNat e=e:=by
 rw[show(k+1).toNat=0 by omega];rfl
theorem heapPop_step {first:Nat} {k:Int} {e:Array PairK} (h:0≤k):heapPop ltP first (k+1).toNat e=heapPop ltP first (k-1+1).toNat (siftDown ltP k.toNat first 0 (swp e first (first+k.toNat))):=by
 obtain⟨m,rfl⟩:=Int.eq_ofNat_of_zero_le h
 rw[show((m:Int)+1).toNat=m+1 by omega,show((m:Int)-1+1).toNat=m by omega,show(m:Int).toNat=m by omega]
 rfl
theorem heapPop_end {first:Nat} {k:Int} {e:Array PairK} (h:k<0):heapPop ltP first (k+1).toNat e=e:=by
 rw[show(k+1).toNat=0 by omega];rfl
theorem heapBuild_size (hi first:Nat):∀ (k:Nat) (e:Array PairK),(heapBuild ltP hi first k e).size=e.size
 | 0,_=>rfl
 | k+1,e=>(heapBuild_size hi first k _).trans (sift_size hi first _ k e (Nat.le_refl _))
set_option maxHeartbeats 4000000 in
theorem heapSort_fn (O:Opq) (d:Array PairK) (a b:Nat) (ai bi:Int) (hai:ai=a) (hbi:bi=b) (hb:b≤d.size) (ha:a<b) (hd:d.size≤1000000) :
  Fn prog 80 [.ref 0,.int .i64 ai,.int .i64 bi,.fn 35 [] []] [.arr 0 none 2 (O.o arrE d)] [] [.arr 0 none 2 (O.o arrE (heapSort ltP d a b))]:=by
 obtain⟨R,hR⟩:∃ R,R=heapSort ltP d a b:=⟨_,rfl⟩
 rw[← hR]
 obtain⟨E,hE⟩:∃ E,E=heapBuild ltP (b-a) a ((b-a-1) / 2+1) d:=⟨_,rfl⟩
 obtain⟨hi,hhi⟩:∃ hi,hi=b-a:=⟨_,rfl⟩
 have hR:heapPop ltP a hi E=R:=by rw[hE,hhi];exact hR.symm
 rw[← hhi] at hE
 obtain⟨n,hn⟩:∃ n,n=d.size:=⟨_,rfl⟩
 have hEs:E.size=n:=by rw[hE,heapBuild_size,hn]
 obtain⟨z,hz⟩:∃ z:Int×Array PairK,z=((((hi-1) / 2:Nat):Int),d):=⟨_,rfl⟩
 have z1:2 * z.1≤hi-1∧(hi:Int)-1<2 * z.1+2:=by rw[hz];dsimp only;omega
 have z2:O.o arrE d=O.o arrE z.2:=by rw[hz]
 have hz0:-1≤z.1∧z.1<hi∧z.2.size=n∧heapBuild ltP hi a (z.1+1).toNat z.2=E:=by rw[hz];exact⟨by dsimp only;omega,by dsimp only;omega,hn.symm,hE.symm⟩
 have hb:a+hi≤n:=by omega
 have h1:1≤hi:=by omega
 have hhi:(hi:Int)=b-a:=by omega
 have hd:n≤1000000:=by omega
 clear hz hE hn ha
 obtain⟨Z,hZ⟩:∃ Z,Z=O.o arrE d:=⟨_,rfl⟩
 rw[← hZ] at z2 ⊢
 clear hZ
 refine go (fn:=Proofs.Tryz.f80) (n:=56) (rv:=[]) rfl (by decide) rfl (by decide +kernel) rfl rfl (by simp) fun F L C=>?_
 cbv
 (repeat' first|(refine Na ?_ fun _ _=>?_;(focus lia);cbv)|(refine Need.mk ?_ ?_;rotate_left;cbv))
 any_goals (show ¬ (2:Int)=0;decide)
 rename_i h0 eh0 h1' eh1 q eq
 have q1:2 * q≤h1'∧h1'<2 * q+2:=by rw[eq,Int.tdiv_eq_ediv_of_nonneg (by lia)];constructor<;>omega
 clear eq
 refine LoopThen.mk (C.loopAt (ι:=Int×Array PairK) [(11,11),(20,29)] (fun x=>[(11,.int .i64 x.1)]) (fun x=>[(0,.arr 0 none 2 (O.o arrE x.2))])
  (fun x=>-1≤x.1∧x.1<hi∧x.2.size=n∧heapBuild ltP hi a (x.1+1).toNat x.2=E) (fun x=>(x.1+1).toNat) (by decide +kernel) (Start.mk z [] [] hz0 ?_) ?_)
 ·cbv
  (repeat' apply And.intro)<;>first|exact True.intro|exact WkR.refl _|exact WkR.of_eq z2.symm|rfl|(clear hz0 z2;lia)|trace_state
 intro x g
 obtain⟨k,e⟩:=x
 cbv
 clear hz0 z2 z1 q1
 have g0:-1≤k:=g.1
 have g1:k<hi:=g.2.1
 have g2:e.size=n:=g.2.2.1
 have g3:heapBuild ltP hi a (k+1).toNat e=E:=g.2.2.2
 clear g
 have hlen:=arrE_len O e
 by_cases hk:0≤k
 ·rw[heapBuild_step hk] at g3
  have ks:=siftDown_fn O e k.toNat hi a k h0 ai (by lia) (by lia) (by lia) (by lia) (by lia) (by lia)
  have hz:=sift_size hi a _ k.toNat e (Nat.le_refl _)
  obtain⟨W,hW⟩:∃ W,W=siftDown ltP hi a k.toNat e:=⟨_,rfl⟩
  rw[← hW] at ks hz g3
  clear hW hR
  (repeat' first|(refine Na ?_ fun _ _=>?_;(focus lia);cbv)|(refine CallThen.mk _ _ (C.fn (Fn.wkA (ks) ?_)) ?_;(focus((repeat' apply WkAL.cons)<;>first|exact WkAL.nil|exact WkA.refl _|exact WkA.lend rfl|exact WkA.bor rfl (WkR.refl _)|exact WkA.wk (Wk.nil _ _)|exact WkA.wk (Wk.sl' rfl rfl (WkR.refl _))|(refine WkA.agg' ?_;((repeat' apply WkAL.cons)<;>first|exact WkAL.nil|exact WkA.refl _|exact WkA.lend rfl|exact WkA.bor rfl (WkR.refl _)|exact WkA.wk (Wk.nil _ _)|exact WkA.wk (Wk.sl' rfl rfl (WkR.refl _))|(refine WkA.agg' ?_;((repeat' apply WkAL.cons)<;>first|exact WkAL.nil|exact WkA.refl _|exact WkA.lend rfl|exact WkA.bor rfl (WkR.refl _)|exact WkA.wk (Wk.nil _ _)|exact WkA.wk (Wk.sl' rfl rfl (WkR.refl _))))))));cbv)|(refine Back.to (k-1,W) [] [] ?_ fun _ _=>?_;rotate_left;cbv)|(refine Br.t ?_ ?_;(focus first|assumption|lia);cbv))
  all_goals first
   | (rename_i y' hy';subst hy';refine⟨WkR.refl _,?_,trivial⟩;clear ks g3;lia)
   | exact⟨⟨by dsimp only;omega,by dsimp only;omega,by dsimp only;omega,g3⟩,by dsimp only;omega⟩
   | (clear ks g3;lia)
   | trace_state
 ·rw[heapBuild_end (by omega)] at g3
  subst g3
  obtain⟨z,hz⟩:∃ z:Int×Array PairK,z=((hi:Int)-1,e):=⟨_,rfl⟩
  have z1:z.1=hi-1:=by rw[hz]
  have z2:O.o arrE e=O.o arrE z.2:=by rw[hz]
  have hz0:-1≤z.1∧z.1<hi∧z.2.size=n∧heapPop ltP a (z.1+1).toNat z.2=R:=by rw[hz];exact⟨by dsimp only;omega,by dsimp only;omega,hEs,by dsimp only;rw[show((hi:Int)-1+1).toNat=hi by omega];exact hR⟩
  clear hz hR
  (repeat' first|(refine Na ?_ fun _ _=>?_;(focus lia);cbv)|(refine Br.f ?_ ?_;(focus first|assumption|lia);cbv))
  refine LoopThen.mk (C.loopAt (ι:=Int×Array PairK) [(12,12),(32,59)] (fun x=>[(12,.int .i64 x.1)]) (fun x=>[(0,.arr 0 none 2 (O.o arrE x.2))])
   (fun x=>-1≤x.1∧x.1<hi∧x.2.size=n∧heapPop ltP a (x.1+1).toNat x.2=R) (fun x=>(x.1+1).toNat) (by decide +kernel) (Start.mk z [] [] hz0 ?_) ?_)
  ·cbv
   (repeat' apply And.intro)<;>first|exact True.intro|exact WkR.refl _|exact WkR.of_eq z2.symm|rfl|(clear hz0 z2;lia)|trace_state
  intro x g
  obtain⟨k,f⟩:=x
  cbv
  clear hz0 z2 z1
  have q0:-1≤k:=g.1
  have q1:k<hi:=g.2.1
  have q2:f.size=n:=g.2.2.1
  have q3:heapPop ltP a (k+1).toNat f=R:=g.2.2.2
  clear g
  have hlen:=arrE_len O f
  by_cases hk:0≤k
  ·rw[heapPop_step hk] at q3
   obtain⟨x,hx⟩:∃ x,x=f[a]!:=⟨_,rfl⟩
   obtain⟨y,hy⟩:∃ y,y=f[a+k.toNat]!:=⟨_,rfl⟩
   have b1:a<f.size:=by omega
   have b2:a+k.toNat<f.size:=by omega
   have hsz:=swp_size f a (a+k.toNat)
   have hsw:=@swp_rows O f a (a+k.toNat) x y b1 b2 hx hy
   obtain⟨V,hV⟩:∃ V,V=swp f a (a+k.toNat):=⟨_,rfl⟩
   rw[← hV] at hsz q3 hsw
   have ks:=siftDown_fn O V 0 k.toNat a 0 k ai rfl (by lia) (by lia) (by lia) (by lia) (by lia)
   have hz:=sift_size k.toNat a _ 0 V (Nat.le_refl _)
   obtain⟨W,hW⟩:∃ W,W=siftDown ltP k.toNat a 0 V:=⟨_,rfl⟩
   rw[← hW] at ks hz q3
   clear hW hV
   obtain⟨xa,xb⟩:=x
   obtain⟨ya,yb⟩:=y
   (repeat' first|(refine Na ?_ fun _ _=>?_;(focus lia);cbv)|(refine Ex.arr O b1 hx ?_ ?_;(focus lia);cbv)|(refine Ex.arr O b2 hy ?_ ?_;(focus lia);cbv)|(refine Ex.swp O b2 hy (by assumption) rfl ?_ ?_;(focus lia);cbv)|(obtain rfl:=hsw (by assumption) (by assumption) rfl rfl (by lia) (by lia);refine CallThen.mk _ _ (C.fn ks) ?_;cbv)|(refine Back.to (k-1,W) [] [] ?_ fun _ _=>?_;rotate_left;cbv)|(refine Nl fun _ _ hq=>?_;(try simp only [lenS] at hq);cbv)|(refine Nm fun _ _=>?_;cbv)|(refine Br.t ?_ ?_;(focus first|assumption|lia);cbv)|(refine Need.mk ?_ ?_;rotate_left;cbv))
   all_goals first
    | (rename_i y' hy';subst hy';refine⟨WkR.refl _,?_,trivial⟩;clear hx hy hsw ks q3;lia)
    | exact⟨⟨by dsimp only;omega,by dsimp only;omega,by dsimp only;omega,q3⟩,by dsimp only;omega⟩
    | (clear hx hy hsw ks q3;lia)
    | trace_state
  ·rw[heapPop_end (by omega)] at q3
   subst q3
   (repeat' first|(refine Br.f ?_ ?_;(focus first|assumption|lia);cbv)|(refine R0 ?_;cbv))
   all_goals first
    | exact⟨.refl _,trivial⟩
    | exact .refl _
    | lia
    | trace_state
open Go.Sort (order2 median medianAdjacent choosePivot Hint)
theorem order2_at (d:Array PairK) (a b s:Nat):order2 ltP d a b s=if ordI d[b]! d[a]!<0 then(b,a,s+1) else(a,b,s):=by
 unfold order2 ltP
 by_cases h:ordI d[b]! d[a]!<0
 ·rw[if_pos h,if_pos (by simpa using h)]
 ·rw[if_neg h,if_neg (by simpa using h)]
theorem order2_fn (O:Opq) (d:Array PairK) (a b s:Nat) (ai bi si ri rj rs:Int) (hai:ai=a) (hbi:bi=b) (hsi:si=s) (hri:ri=(order2 ltP d a b s).1) (hrj:rj=(order2 ltP d a b s).2.1) (hrs:rs=(order2 ltP d a b s).2.2) (ha:a<d.size) (hb:b<d.size) (hs:s≤100) (hd:d.size≤1000000) :
  Fn prog 145 [.sl true 0 false 2 (O.o arrE d),.int .i64 ai,.int .i64 bi,.ptr 0 0,.fn 35 [] []] [.box [.int .i64 si]] [.int .i64 ri,.int .i64 rj] [.box [.int .i64 rs]]:=by
 rw[order2_at] at hri hrj hrs
 obtain⟨x,hx⟩:∃ x,x=d[b]!:=⟨_,rfl⟩
 obtain⟨y,hy⟩:∃ y,y=d[a]!:=⟨_,rfl⟩
 have kc:=order_fn O x y
 rw[← hx,← hy] at hri hrj hrs
 have hS:O.o (ordI x) y=ordI x y:=by rw[O.h]
 rw[← hS] at hri hrj hrs
 obtain⟨S,eS⟩:∃ S,S=O.o (ordI x) y:=⟨_,rfl⟩
 rw[← eS] at hri hrj hrs kc
 clear hS eS
 have hlen:=arrE_len O d
 obtain⟨xa,xb⟩:=x
 obtain⟨ya,yb⟩:=y
 by_cases h:S<0
 ·rw[if_pos h] at hri hrj hrs
  have hri:ri=bi:=by rw[hri,hbi]
  have hrj:rj=ai:=by rw[hrj,hai]
  have hrs:rs=si+1:=by rw[hrs,hsi];rfl
  subst hri hrj
  refine go (fn:=Proofs.Tryz.f145) (n:=27) (rv:=[ResultVar.tmp 10,ResultVar.tmp 11]) rfl (by decide) rfl (by decide +kernel) rfl rfl (by simp) fun F L C=>?_
  cbv
  (repeat' first|(refine Na ?_ fun _ _=>?_;(focus lia);cbv)|(refine Ex.arr O hb hx ?_ ?_;(focus lia);cbv)|(refine Ex.arr O ha hy ?_ ?_;(focus lia);cbv)|(refine CallThen.mk _ _ (C.fn (kc)) ?_;cbv)|(refine Br.t ?_ ?_;(focus first|assumption|lia);cbv)|(refine R0 ?_;cbv))
  all_goals(repeat' apply And.intro)
  all_goals first
   | exact True.intro
   | rfl
   | (clear hx hy kc;lia)
   | trace_state
 ·rw[if_neg h] at hri hrj hrs
  have hri:ri=ai:=by rw[hri,hai]
  have hrj:rj=bi:=by rw[hrj,hbi]
  have hrs:rs=si:=by rw[hrs,hsi]
  subst hri hrj hrs
  refine go (fn:=Proofs.Tryz.f145) (n:=27) (rv:=[ResultVar.tmp 10,ResultVar.tmp 11]) rfl (by decide) rfl (by decide +kernel) rfl rfl (by simp) fun F L C=>?_
  cbv
  (repeat' first|(refine Ex.arr O hb hx ?_ ?_;(focus lia);cbv)|(refine Ex.arr O ha hy ?_ ?_;(focus lia);cbv)|(refine CallThen.mk _ _ (C.fn (kc)) ?_;cbv)|(refine Br.f ?_ ?_;(focus first|assumption|lia);cbv)|(refine R0 ?_;cbv))
  all_goals(repeat' apply And.intro)
  all_goals first
   | exact True.intro
   | rfl
   | (clear hx hy kc;lia)
   | trace_state
theorem order2_mem (d:Array PairK) (a b s:Nat):((order2 ltP d a b s).1=a∧(order2 ltP d a b s).2.1=b∧(order2 ltP d a b s).2.2=s)∨((order2 ltP d a b s).1=b∧(order2 ltP d a b s).2.1=a∧(order2 ltP d a b s).2.2=s+1):=by
 rw[order2_at]
 split
 ·exact .inr ⟨rfl,rfl,rfl⟩
 ·exact .inl ⟨rfl,rfl,rfl⟩
theorem median_mem (d:Array PairK) (a b c s:Nat):((median ltP d a b c s).1=a∨(median ltP d a b c s).1=b∨(median ltP d a b c s).1=c)∧(median ltP d a b c s).2≤s+3:=by
 unfold median
 dsimp only
 have h1:=order2_mem d a b s
 obtain⟨r1,hr1⟩:∃ r,r=order2 ltP d a b s:=⟨_,rfl⟩
 rw[← hr1] at h1 ⊢
 have h2:=order2_mem d r1.2.1 c r1.2.2
 obtain⟨r2,hr2⟩:∃ r,r=order2 ltP d r1.2.1 c r1.2.2:=⟨_,rfl⟩
 rw[← hr2] at h2 ⊢
 have h3:=order2_mem d r1.1 r2.1 r2.2.2
 obtain⟨r3,hr3⟩:∃ r,r=order2 ltP d r1.1 r2.1 r2.2.2:=⟨_,rfl⟩
 rw[← hr3] at h3 ⊢
 constructor<;>omega
theorem median_fn (O:Opq) (d:Array PairK) (a b c s:Nat) (ai bi ci si rm rs:Int) (hai:ai=a) (hbi:bi=b) (hci:ci=c) (hsi:si=s) (hrm:rm=(median ltP d a b c s).1) (hrs:rs=(median ltP d a b c s).2) (ha:a<d.size) (hb:b<d.size) (hc:c<d.size) (hs:s≤50) (hd:d.size≤1000000) :
  Fn prog 114 [.sl true 0 false 2 (O.o arrE d),.int .i64 ai,.int .i64 bi,.int .i64 ci,.ptr 0 0,.fn 35 [] []] [.box [.int .i64 si]] [.int .i64 rm] [.box [.int .i64 rs]]:=by
 unfold median at hrm hrs
 dsimp only at hrm hrs
 have h1:=order2_mem d a b s
 have k1:=fun x y z p q r=>order2_fn O d a b s ai bi si x y z hai hbi hsi p q r ha hb (by omega) hd
 obtain⟨r1,hr1⟩:∃ r,r=order2 ltP d a b s:=⟨_,rfl⟩
 rw[← hr1] at h1 k1 hrm hrs
 obtain⟨x1,x2,x3⟩:=r1
 dsimp only at h1 k1 hrm hrs
 obtain⟨i1,e1⟩:∃ i:Int,i=x1:=⟨_,rfl⟩
 obtain⟨i2,e2⟩:∃ i:Int,i=x2:=⟨_,rfl⟩
 obtain⟨i3,e3⟩:∃ i:Int,i=x3:=⟨_,rfl⟩
 have k1:=k1 i1 i2 i3 e1 e2 e3
 clear hr1
 have h2:=order2_mem d x2 c x3
 have k2:=fun x y z p q r=>order2_fn O d x2 c x3 i2 ci i3 x y z e2 hci e3 p q r (by omega) hc (by omega) hd
 obtain⟨r2,hr2⟩:∃ r,r=order2 ltP d x2 c x3:=⟨_,rfl⟩
 rw[← hr2] at h2 k2 hrm hrs
 obtain⟨y1,y2,y3⟩:=r2
 dsimp only at h2 k2 hrm hrs
 obtain⟨j1,f1⟩:∃ i:Int,i=y1:=⟨_,rfl⟩
 obtain⟨j2,f2⟩:∃ i:Int,i=y2:=⟨_,rfl⟩
 obtain⟨j3,f3⟩:∃ i:Int,i=y3:=⟨_,rfl⟩
 have k2:=k2 j1 j2 j3 f1 f2 f3
 clear hr2
 have h3:=order2_mem d x1 y1 y3
 have k3:=fun x y z p q r=>order2_fn O d x1 y1 y3 i1 j1 j3 x y z e1 f1 f3 p q r (by omega) (by omega) (by omega) hd
 obtain⟨r3,hr3⟩:∃ r,r=order2 ltP d x1 y1 y3:=⟨_,rfl⟩
 rw[← hr3] at h3 k3 hrm hrs
 obtain⟨z1,z2,z3⟩:=r3
 dsimp only at h3 k3 hrm hrs
 obtain⟨l1,g1⟩:∃ i:Int,i=z1:=⟨_,rfl⟩
 have k3:=k3 l1 rm rs g1 hrm hrs
 clear hr3 h1 h2 h3 hrm hrs e1 e2 e3 f1 f2 f3 g1
 refine go (fn:=Proofs.Tryz.f114) (n:=35) (rv:=[ResultVar.tmp 12]) rfl (by decide) rfl (by decide +kernel) rfl rfl (by simp) fun F L C=>?_
 cbv
 (repeat' first|(refine CallThen.mk _ _ (C.fn (k1)) ?_;cbv)|(refine CallThen.mk _ _ (C.fn (k2)) ?_;cbv)|(refine CallThen.mk _ _ (C.fn (k3)) ?_;cbv)|(refine R0 ?_;cbv))
 all_goals(repeat' apply And.intro)
 all_goals first
  | exact True.intro
  | rfl
  | trace_state
theorem medianAdj_fn (O:Opq) (d:Array PairK) (a s:Nat) (ai si rm rs:Int) (hai:ai=a) (hsi:si=s) (hrm:rm=(medianAdjacent ltP d a s).1) (hrs:rs=(medianAdjacent ltP d a s).2) (ha:a+1<d.size) (h1:1≤a) (hs:s≤50) (hd:d.size≤1000000) :
  Fn prog 113 [.sl true 0 false 2 (O.o arrE d),.int .i64 ai,.ptr 0 0,.fn 35 [] []] [.box [.int .i64 si]] [.int .i64 rm] [.box [.int .i64 rs]]:=by
 have k:=fun(pi qi:Int) (h2:pi=ai-1) (h3:qi=ai+1)=>median_fn O d (a-1) a (a+1) s pi ai qi si rm rs (by omega) hai (by omega) hsi hrm hrs (by omega) (by omega) ha hs hd
 clear hrm hrs
 refine go (fn:=Proofs.Tryz.f113) (n:=14) (rv:=[ResultVar.tmp 8]) rfl (by decide) rfl (by decide +kernel) rfl rfl (by simp) fun F L C=>?_
 cbv
 (repeat' first|(refine Na ?_ fun _ _=>?_;(focus lia);cbv)|(refine CallThen.mk _ _ (C.fn (k _ _ (by assumption) (by assumption))) ?_;cbv)|(refine R0 ?_;cbv))
 all_goals(repeat' apply And.intro)
 all_goals first
  | exact True.intro
  | rfl
  | (clear k;lia)
  | trace_state
def hintI:Hint→Int
 | .unknown=>0
 | .increasing=>1
 | .decreasing=>2
theorem hint_at (n:Nat):hintI (if n=0 then .increasing else if n=12 then .decreasing else .unknown)=if n=0 then 1 else if n=12 then 2 else 0:=by
 split
 ·rfl
 ·split<;>rfl
theorem choose_big (d:Array PairK) {a b:Nat} (h:50≤b-a):∃ i j k r1 r2 r3 r4,i=a+(b-a) / 4 * 1∧j=a+(b-a) / 4 * 2∧k=a+(b-a) / 4 * 3∧r1=medianAdjacent ltP d i 0∧r2=medianAdjacent ltP d j r1.2∧r3=medianAdjacent ltP d k r2.2∧r4=median ltP d r1.1 r2.1 r3.1 r3.2 ∧
  choosePivot ltP d a b=(r4.1,if r4.2=0 then .increasing else if r4.2=12 then .decreasing else .unknown):=by
 refine⟨_,_,_,_,_,_,_,rfl,rfl,rfl,rfl,rfl,rfl,rfl,?_⟩
 unfold choosePivot;dsimp only;rw[if_pos (by omega),if_pos h]
theorem choose_small (d:Array PairK) {a b:Nat} (h:b-a<50) (h8:8≤b-a):∃ i j k r4,i=a+(b-a) / 4 * 1∧j=a+(b-a) / 4 * 2∧k=a+(b-a) / 4 * 3∧r4=median ltP d i j k 0 ∧
  choosePivot ltP d a b=(r4.1,if r4.2=0 then .increasing else if r4.2=12 then .decreasing else .unknown):=by
 refine⟨_,_,_,_,rfl,rfl,rfl,rfl,?_⟩
 unfold choosePivot;dsimp only;rw[if_pos (by omega),if_neg (by omega)]
theorem adj_mem (d:Array PairK) (a s:Nat) (ha:1≤a):(a-1≤(medianAdjacent ltP d a s).1∧(medianAdjacent ltP d a s).1≤a+1)∧(medianAdjacent ltP d a s).2≤s+3:=by
 have:=median_mem d (a-1) a (a+1) s
 unfold medianAdjacent
 constructor<;>omega
set_option maxHeartbeats 4000000 in
theorem choosePivot_fn (O:Opq) (d:Array PairK) (a b:Nat) (ai bi pi hi:Int) (hai:ai=a) (hbi:bi=b) (hpi:pi=(choosePivot ltP d a b).1) (hhi:hi=hintI (choosePivot ltP d a b).2) (hb:b≤d.size) (ha:a+12<b) (hd:d.size≤1000000) :
  Fn prog 82 [.sl true 0 false 2 (O.o arrE d),.int .i64 ai,.int .i64 bi,.fn 35 [] []] [] [.int .i64 pi,.int .i64 hi] []:=by
 by_cases h50:50≤b-a
 ·obtain⟨i,j,k,r1,r2,r3,r4,ei,ej,ek,e1,e2,e3,e4,ec⟩:=choose_big d h50
  rw[ec] at hpi hhi
  rw[hint_at] at hhi
  have m1:=adj_mem d i 0 (by omega)
  have c1:=fun(x y u v:Int) p q r s=>medianAdj_fn O d i 0 x y u v p q r s (by omega) (by omega) (by omega) hd
  rw[← e1] at m1 c1
  have m2:=adj_mem d j r1.2 (by omega)
  have c2:=fun(x y u v:Int) p q r s=>medianAdj_fn O d j r1.2 x y u v p q r s (by omega) (by omega) (by omega) hd
  rw[← e2] at m2 c2
  have m3:=adj_mem d k r2.2 (by omega)
  have c3:=fun(x y u v:Int) p q r s=>medianAdj_fn O d k r2.2 x y u v p q r s (by omega) (by omega) (by omega) hd
  rw[← e3] at m3 c3
  have c4:=fun(x y z w u v:Int) p q r s t t'=>median_fn O d r1.1 r2.1 r3.1 r3.2 x y z w u v p q r s t t' (by omega) (by omega) (by omega) (by omega) hd
  rw[← e4] at c4
  obtain⟨l,el⟩:∃ l,l=b-a:=⟨_,rfl⟩
  clear e1 e2 e3 e4 m1 m2 m3 ec
  obtain⟨x1,y1⟩:=r1
  obtain⟨x2,y2⟩:=r2
  obtain⟨x3,y3⟩:=r3
  obtain⟨x4,y4⟩:=r4
  dsimp only at *
  obtain⟨u1,f1⟩:∃ u:Int,u=x1:=⟨_,rfl⟩
  obtain⟨v1,g1⟩:∃ u:Int,u=y1:=⟨_,rfl⟩
  obtain⟨u2,f2⟩:∃ u:Int,u=x2:=⟨_,rfl⟩
  obtain⟨v2,g2⟩:∃ u:Int,u=y2:=⟨_,rfl⟩
  obtain⟨u3,f3⟩:∃ u:Int,u=x3:=⟨_,rfl⟩
  obtain⟨v3,g3⟩:∃ u:Int,u=y3:=⟨_,rfl⟩
  obtain⟨v4,g4⟩:∃ u:Int,u=y4:=⟨_,rfl⟩
  have c1:=fun x p=>c1 x 0 u1 v1 p rfl f1 g1
  have c2:=fun x p=>c2 x v1 u2 v2 p g1 f2 g2
  have c3:=fun x p=>c3 x v2 u3 v3 p g2 f3 g3
  have c4:=c4 u1 u2 u3 v3 pi v4 f1 f2 f3 g3 hpi g4
  have hhi:(v4=0→hi=1)∧(v4=12→hi=2)∧(v4≠0→v4≠12→hi=0):=by rw[hhi];refine⟨fun h=>if_pos (by omega),fun h=>(if_neg (by omega)).trans (if_pos (by omega)),fun h k=>(if_neg (by omega)).trans (if_neg (by omega))⟩
  clear hpi f1 f2 f3 g1 g2 g3 g4
  have el2:(l:Int)=bi-ai:=by omega
  have ei:(i:Int)=a+((l / 4:Nat):Int) * 1:=by omega
  have ej:(j:Int)=a+((l / 4:Nat):Int) * 2:=by omega
  have ek:(k:Int)=a+((l / 4:Nat):Int) * 3:=by omega
  have ed:4 * ((l / 4:Nat):Int)≤l∧(l:Int)<4 * ((l / 4:Nat):Int)+4:=by omega
  obtain⟨q,hq⟩:∃ q:Int,q=((l / 4:Nat):Int):=⟨_,rfl⟩
  rw[← hq] at ei ej ek ed
  clear hq el
  refine go (fn:=Proofs.Tryz.f82) (n:=59) (rv:=[ResultVar.tmp 8,ResultVar.tmp 9]) rfl (by decide) rfl (by decide +kernel) rfl rfl (by simp) fun F L C=>?_
  cbv
  (repeat' first|(refine Need.mk (fun h=>nomatch h) ?_;cbv)|(refine Na ?_ fun _ _=>?_;(focus lia);cbv)|(refine CallThen.mk _ _ (C.fn (c1 _ ?_)) ?_;(focus(clear c1 c2 c3 c4;lia));cbv)|(refine CallThen.mk _ _ (C.fn (c2 _ ?_)) ?_;(focus(clear c1 c2 c3 c4;lia));cbv)|(refine CallThen.mk _ _ (C.fn (c3 _ ?_)) ?_;(focus(clear c1 c2 c3 c4;lia));cbv)|(refine CallThen.mk _ _ (C.fn (c4)) ?_;cbv)|(refine Br.t ?_ ?_;(focus first|assumption|lia);cbv)|(refine Br.mk (fun _=>?_) (fun _=>?_)<;>cbv)|(refine R0 ?_;cbv))
  all_goals(repeat' apply And.intro)
  all_goals first
   | exact True.intro
   | rfl
   | (clear c1 c2 c3 c4;lia)
   | trace_state
 ·obtain⟨i,j,k,r4,ei,ej,ek,e4,ec⟩:=choose_small d (Nat.lt_of_not_le h50) (by omega)
  rw[ec] at hpi hhi
  rw[hint_at] at hhi
  have c4:=fun(x y z w u v:Int) p q r s t t'=>median_fn O d i j k 0 x y z w u v p q r s t t' (by omega) (by omega) (by omega) (by omega) hd
  rw[← e4] at c4
  obtain⟨l,el⟩:∃ l,l=b-a:=⟨_,rfl⟩
  clear e4 ec
  obtain⟨x4,y4⟩:=r4
  dsimp only at *
  obtain⟨v4,g4⟩:∃ u:Int,u=y4:=⟨_,rfl⟩
  have c4:=fun x y z p q r=>c4 x y z 0 pi v4 p q r rfl hpi g4
  have hhi:(v4=0→hi=1)∧(v4=12→hi=2)∧(v4≠0→v4≠12→hi=0):=by rw[hhi];refine⟨fun h=>if_pos (by omega),fun h=>(if_neg (by omega)).trans (if_pos (by omega)),fun h k=>(if_neg (by omega)).trans (if_neg (by omega))⟩
  clear hpi g4
  have el2:(l:Int)=bi-ai:=by omega
  have ei:(i:Int)=a+((l / 4:Nat):Int) * 1:=by omega
  have ej:(j:Int)=a+((l / 4:Nat):Int) * 2:=by omega
  have ek:(k:Int)=a+((l / 4:Nat):Int) * 3:=by omega
  have ed:4 * ((l / 4:Nat):Int)≤l∧(l:Int)<4 * ((l / 4:Nat):Int)+4:=by omega
  obtain⟨q,hq⟩:∃ q:Int,q=((l / 4:Nat):Int):=⟨_,rfl⟩
  rw[← hq] at ei ej ek ed
  clear hq
  have h8:(l:Int)<50∧8≤(l:Int):=by omega
  clear el
  refine go (fn:=Proofs.Tryz.f82) (n:=59) (rv:=[ResultVar.tmp 8,ResultVar.tmp 9]) rfl (by decide) rfl (by decide +kernel) rfl rfl (by simp) fun F L C=>?_
  cbv
  (repeat' first|(refine Need.mk (fun h=>nomatch h) ?_;cbv)|(refine Na ?_ fun _ _=>?_;(focus lia);cbv)|(refine CallThen.mk _ _ (C.fn (c4 _ _ _ ?_ ?_ ?_)) ?_;(focus(clear c4;lia));(focus(clear c4;lia));(focus(clear c4;lia));cbv)|(refine Br.t ?_ ?_;(focus first|assumption|lia);cbv)|(refine Br.f ?_ ?_;(focus first|assumption|lia);cbv)|(refine Br.mk (fun _=>?_) (fun _=>?_)<;>cbv)|(refine R0 ?_;cbv))
  all_goals(repeat' apply And.intro)
  all_goals first
   | exact True.intro
   | rfl
   | (clear c4;lia)
   | trace_state
open Go.Sort (swp scanUp scanDown partEqLoop partitionEqual)
theorem scanUp_go {p:PairK→Bool} {d:Array PairK} {j i:Nat} (h:i≤j) (hp:p d[i]! = true):scanUp p d j i=scanUp p d j (i+1):=by
 rw[scanUp,if_pos (by simp [h,hp])]
theorem scanUp_stop {p:PairK→Bool} {d:Array PairK} {j i:Nat} (h:i≤j→p d[i]! = false):scanUp p d j i=i:=by
 rw[scanUp,if_neg]
 intro k
 simp only [Bool.and_eq_true,decide_eq_true_eq] at k
 rw[h k.1] at k
 cases k.2
theorem scanDown_go {p:PairK→Bool} {d:Array PairK} {j i:Nat} (h:i≤j) (h1:1≤j) (hp:p d[j]! = true):scanDown p d i j=scanDown p d i (j-1):=by
 cases j with
 | zero=>omega
 | succ j=>rw[scanDown,if_pos (by simp [h,hp])];rfl
theorem scanDown_stop {p:PairK→Bool} {d:Array PairK} {j i:Nat} (h:i≤j→p d[j]! = false):scanDown p d i j=j:=by
 cases j with
 | zero=>rfl
 | succ j =>
  rw[scanDown,if_neg]
  intro k
  simp only [Bool.and_eq_true,decide_eq_true_eq] at k
  rw[h k.1] at k
  cases k.2
theorem partEq_at {d:Array PairK} {a i j u w:Nat} (hu:u=scanUp (fun x=>!ltP d[a]! x) d j i) (hw:w=scanDown (fun x=>ltP d[a]! x) d u j) (h1:i≤u) (h2:w≤j) (h3:1≤i) :
  partEqLoop ltP a i j d=if u > w then(u,d) else partEqLoop ltP a (u+1) (w-1) (swp d u w):=by
 rw[partEqLoop]
 simp only [← hu,← hw]
 split
 ·rfl
 ·rw[dif_pos (by omega)]
theorem scanUp_ge (p:PairK→Bool) (d:Array PairK) (j:Nat):∀ (m i:Nat),j+1-i≤m→i≤scanUp p d j i:=by
 intro m
 induction m with
 | zero=>intro i h;rw[scanUp_stop fun k=>by omega];exact Nat.le_refl _
 | succ m ih =>
  intro i h
  by_cases hp:i≤j∧p d[i]! = true
  ·rw[scanUp_go hp.1 hp.2]
   have:=ih (i+1) (by omega)
   omega
  ·rw[scanUp_stop fun k=>by cases e:p d[i]!<;>simp_all];exact Nat.le_refl _
theorem scanDown_le (p:PairK→Bool) (d:Array PairK) (i:Nat):∀ j,scanDown p d i j≤j
 | 0=>Nat.le_refl _
 | j+1=>by
  rw[scanDown]
  split
  ·have:=scanDown_le p d i j;omega
  ·exact Nat.le_refl _
theorem partEq_size (a:Nat):∀ (m i j:Nat) (d:Array PairK),j+1-i≤m→(partEqLoop ltP a i j d).2.size=d.size:=by
 intro m
 induction m using Nat.strongRecOn with
 | ind m ih =>
  intro i j d h
  rw[partEqLoop]
  split
  ·rfl
  ·split
   ·rename_i h1 h2
    rw[ih _ (by omega) _ _ _ (Nat.le_refl _),swp_size]
   ·rfl
set_option maxHeartbeats 8000000 in
theorem partitionEqual_fn (O:Opq) (d:Array PairK) (a b p:Nat) (ai bi pi mi:Int) (hai:ai=a) (hbi:bi=b) (hpi:pi=p) (hmi:mi=(partitionEqual ltP d a b p).1) (hb:b≤d.size) (ha:a<b) (hp:p<b) (hd:d.size≤1000000) :
  Fn prog 85 [.ref 0,.int .i64 ai,.int .i64 bi,.int .i64 pi,.fn 35 [] []] [.arr 0 none 2 (O.o arrE d)] [.int .i64 mi] [.arr 0 none 2 (O.o arrE (partitionEqual ltP d a b p).2)]:=by
 obtain⟨R,hR⟩:∃ R,R=partitionEqual ltP d a b p:=⟨_,rfl⟩
 rw[← hR] at hmi ⊢
 obtain⟨E,hE⟩:∃ E,E=swp d a p:=⟨_,rfl⟩
 have hR:partEqLoop ltP a (a+1) (b-1) E=R:=by rw[hE];exact hR.symm
 have hsz:=swp_size d a p
 obtain⟨x,hx⟩:∃ x,x=d[a]!:=⟨_,rfl⟩
 obtain⟨y,hy⟩:∃ y,y=d[p]!:=⟨_,rfl⟩
 have b1:a<d.size:=by omega
 have b2:p<d.size:=by omega
 have hsw:=@swp_rows O d a p x y b1 b2 hx hy
 rw[← hE] at hsz hsw
 obtain⟨n,hn⟩:∃ n,n=d.size:=⟨_,rfl⟩
 obtain⟨z,hz⟩:∃ z:Nat×Nat×Array PairK,z=(a+1,b-1,E):=⟨_,rfl⟩
 have z1:z.1=a+1:=by rw[hz]
 have z3:z.2.1=b-1:=by rw[hz]
 have z2:O.o arrE E=O.o arrE z.2.2:=by rw[hz]
 have hz0:1≤z.1∧z.2.1<n∧z.2.2.size=n∧partEqLoop ltP a z.1 z.2.1 z.2.2=R:=by rw[hz];exact⟨by dsimp only;omega,by dsimp only;omega,by dsimp only;omega,hR⟩
 have hb:b≤n:=by omega
 have han:a<n:=by omega
 have hpn:p<n:=by omega
 have hd:n≤1000000:=by omega
 have hlen:=arrE_len O d
 clear hz hR hE
 obtain⟨xa,xb⟩:=x
 obtain⟨ya,yb⟩:=y
 refine go (fn:=Proofs.Tryz.f85) (n:=85) (rv:=[ResultVar.tmp 10]) rfl (by decide) rfl (by decide +kernel) rfl rfl (by simp) fun F L C=>?_
 cbv
 (repeat' first|(refine Na ?_ fun _ _=>?_;(focus lia);cbv)|(refine Ex.arr O b1 hx ?_ ?_;(focus lia);cbv)|(refine Ex.arr O b2 hy ?_ ?_;(focus lia);cbv)|(refine Ex.swp O b2 hy (by assumption) rfl ?_ ?_;(focus lia);cbv)|(refine Nl fun _ _ hq=>?_;(try simp only [lenS] at hq);cbv)|(refine Nm fun _ _=>?_;cbv)|(refine Need.mk ?_ ?_;rotate_left;cbv))
 all_goals try(clear hx hy hsw hz0 z2;lia)
 obtain rfl:=hsw (by assumption) (by assumption) rfl rfl (by lia) (by lia)
 refine LoopThen.mk (C.loopAt (ι:=Nat×Nat×Array PairK) [(11,12),(31,88)] (fun x=>[(11,.int .i64 x.1),(12,.int .i64 x.2.1)]) (fun x=>[(0,.arr 0 none 2 (O.o arrE x.2.2))])
  (fun x=>1≤x.1∧x.2.1<n∧x.2.2.size=n∧partEqLoop ltP a x.1 x.2.1 x.2.2=R) (fun x=>x.2.1+1-x.1) (by decide +kernel) (Start.mk z [] [] hz0 ?_) ?_)
 ·cbv
  (repeat' apply And.intro)<;>first|exact True.intro|exact WkR.refl _|exact WkR.of_eq z2.symm|rfl|(clear hx hy hsw hz0 z2;lia)|trace_state
 intro x g
 obtain⟨i,j,f⟩:=x
 cbv
 have g0:1≤i:=g.1
 have g1:j<n:=g.2.1
 have g2:f.size=n:=g.2.2.1
 have g3:partEqLoop ltP a i j f=R:=g.2.2.2
 clear g z1 z2 z3 hz0 hsw hx hy hlen
 rename_i e6 _
 have hat:=@partEq_at f a i j _ _ rfl rfl (scanUp_ge _ _ _ _ _ (Nat.le_refl _)) (scanDown_le _ _ _ _) g0
 rw[g3] at hat
 obtain⟨v,hv⟩:∃ v,v=f[a]!:=⟨_,rfl⟩
 have b0:a<f.size:=by omega
 rw[← hv] at hat
 obtain⟨va,vb⟩:=v
 clear g3
 obtain⟨I2,hI2⟩:∃ u,u=scanUp (fun x=>!ltP (⟨va,vb⟩:PairK) x) f j i:=⟨_,rfl⟩
 obtain⟨J2,hJ2⟩:∃ u,u=scanDown (fun x=>ltP (⟨va,vb⟩:PairK) x) f I2 j:=⟨_,rfl⟩
 obtain⟨k0,hk0⟩:∃ k0:Nat,k0=i:=⟨_,rfl⟩
 have hk:i≤k0∧scanUp (fun x=>!ltP (⟨va,vb⟩:PairK) x) f j k0=I2:=by rw[hk0];exact⟨Nat.le_refl _,hI2.symm⟩
 have hlen:=arrE_len O f
 rw[← hI2,← hJ2] at hat
 clear hI2
 skip
 refine LoopThen.mk (C.loopAt (ι:=Nat) [(11,11),(31,49)] (fun k=>[(11,.int .i64 k)]) (fun _=>[(0,.arr 0 none 2 (O.o arrE f))])
  (fun k=>i≤k∧scanUp (fun x=>!ltP (⟨va,vb⟩:PairK) x) f j k=I2) (fun k=>j+1-k) (by decide +kernel) (Start.mk k0 [] [] hk ?_) ?_)
 ·cbv
  (repeat' apply And.intro)<;>first|exact True.intro|exact WkR.refl _|rfl|(clear hk hv hat hJ2 e6;lia)|trace_state
 intro k g
 cbv
 have k1:i≤k:=g.1
 have k2:scanUp (fun x=>!ltP (⟨va,vb⟩:PairK) x) f j k=I2:=g.2
 clear g hk hk0
 by_cases hkj:k≤j
 ·obtain⟨x,hx⟩:∃ x,x=f[k]!:=⟨_,rfl⟩
  have b1:k<f.size:=by omega
  have kc:=order_fn O ⟨va,vb⟩ x
  have hgo:¬ O.o (ordI (⟨va,vb⟩:PairK)) x<0→scanUp (fun x=>!ltP (⟨va,vb⟩:PairK) x) f j (k+1)=I2:=fun h=>by rw[← k2];exact(scanUp_go hkj (by rw[O.h] at h;rw[← hx];simpa [ltP] using h)).symm
  have hstop:¬ ¬ O.o (ordI (⟨va,vb⟩:PairK)) x<0→k=I2:=fun h=>by rw[← k2];exact(scanUp_stop fun _=>(by rw[O.h] at h;rw[← hx];simpa [ltP] using h)).symm
  obtain⟨S,hS⟩:∃ S,S=O.o (ordI (⟨va,vb⟩:PairK)) x:=⟨_,rfl⟩
  rw[← hS] at kc hgo hstop
  clear hS k2
  obtain⟨xa,xb⟩:=x
  by_cases hs:¬ S<0
  ·have hgo:=hgo hs
   clear hstop hat e6
   (repeat' first|(refine Na ?_ fun _ _=>?_;(focus lia);cbv)|(refine Ex.arr O b0 hv ?_ ?_;(focus lia);cbv)|(refine Ex.arr O b1 hx ?_ ?_;(focus lia);cbv)|(refine CallThen.mk _ _ (C.fn (kc)) ?_;cbv)|(refine Back.to (k+1) [] [] ?_ fun _ _=>?_;rotate_left;cbv)|(refine Nm fun _ _=>?_;cbv)|(refine Br.t ?_ ?_;(focus first|assumption|lia);cbv)|(refine Br.f ?_ ?_;(focus first|assumption|lia);cbv)|(refine Need.mk ?_ ?_;rotate_left;cbv))
   all_goals first
    | (rename_i y' hy';subst hy';refine⟨WkR.refl _,?_,trivial⟩;clear hx hv kc hgo hJ2;lia)
    | exact⟨⟨by omega,hgo⟩,by dsimp only;omega⟩
    | (clear hx hv kc hgo hJ2;lia)
    | trace_state
  ·have hstop:=hstop hs
   subst hstop
   clear hgo
   (repeat' first|(refine Ex.arr O b0 hv ?_ ?_;(focus lia);cbv)|(refine Ex.arr O b1 hx ?_ ?_;(focus lia);cbv)|(refine CallThen.mk _ _ (C.fn (kc)) ?_;cbv)|(refine Nm fun _ _=>?_;cbv)|(refine Br.t ?_ ?_;(focus first|assumption|lia);cbv)|(refine Need.mk ?_ ?_;rotate_left;cbv))
   all_goals try(clear hx hv kc hJ2 hat e6;lia)
   clear kc hx b1 hs
   obtain⟨m0,hm0⟩:∃ m0:Nat,m0=j:=⟨_,rfl⟩
   have hm:m0≤j∧scanDown (fun x=>ltP (⟨va,vb⟩:PairK) x) f k m0=J2:=by rw[hm0];exact⟨Nat.le_refl _,hJ2.symm⟩
   clear hJ2
   refine LoopThen.mk (C.loopAt (ι:=Nat) [(12,12),(50,67)] (fun m=>[(12,.int .i64 m)]) (fun _=>[(0,.arr 0 none 2 (O.o arrE f))])
    (fun m=>m≤j∧scanDown (fun x=>ltP (⟨va,vb⟩:PairK) x) f k m=J2) (fun m=>m) (by decide +kernel) (Start.mk m0 [] [] hm ?_) ?_)
   ·cbv
    (repeat' apply And.intro)<;>first|exact True.intro|exact WkR.refl _|rfl|(clear hm hv hat e6;lia)|trace_state
   intro m g
   cbv
   have m1:m≤j:=g.1
   have m2:scanDown (fun x=>ltP (⟨va,vb⟩:PairK) x) f k m=J2:=g.2
   clear g hm hm0
   by_cases hkm:k≤m
   ·obtain⟨y,hy⟩:∃ y,y=f[m]!:=⟨_,rfl⟩
    have b2:m<f.size:=by omega
    have kd:=order_fn O ⟨va,vb⟩ y
    have hgo: O.o (ordI (⟨va,vb⟩:PairK)) y<0→scanDown (fun x=>ltP (⟨va,vb⟩:PairK) x) f k (m-1)=J2:=fun h=>by rw[← m2];exact(scanDown_go hkm (by omega) (by rw[O.h] at h;rw[← hy];simpa [ltP] using h)).symm
    have hstop:¬  O.o (ordI (⟨va,vb⟩:PairK)) y<0→m=J2:=fun h=>by rw[← m2];exact(scanDown_stop fun _=>(by rw[O.h] at h;rw[← hy];simpa [ltP] using h)).symm
    obtain⟨S2,hS⟩:∃ S,S=O.o (ordI (⟨va,vb⟩:PairK)) y:=⟨_,rfl⟩
    rw[← hS] at kd hgo hstop
    clear hS m2
    obtain⟨ya,yb⟩:=y
    by_cases hs: S2<0
    ·have hgo:=hgo hs
     clear hstop hat e6
     (repeat' first|(refine Na ?_ fun _ _=>?_;(focus lia);cbv)|(refine Ex.arr O b0 hv ?_ ?_;(focus lia);cbv)|(refine Ex.arr O b2 hy ?_ ?_;(focus lia);cbv)|(refine CallThen.mk _ _ (C.fn (kd)) ?_;cbv)|(refine Back.to (m-1) [] [] ?_ fun _ _=>?_;rotate_left;cbv)|(refine Nm fun _ _=>?_;cbv)|(refine Br.t ?_ ?_;(focus first|assumption|lia);cbv)|(refine Need.mk ?_ ?_;rotate_left;cbv))
     all_goals first
      | (rename_i y' hy';subst hy';refine⟨WkR.refl _,?_,trivial⟩;clear hy hv kd hgo;lia)
      | exact⟨⟨by omega,hgo⟩,by dsimp only;omega⟩
      | (clear hy hv kd hgo;lia)
      | trace_state
    ·have hstop:=hstop hs
     subst hstop
     clear hgo
     obtain⟨x,hx⟩:∃ x,x=f[k]!:=⟨_,rfl⟩
     have b1:k<f.size:=by omega
     obtain⟨xa,xb⟩:=x
     rw[if_neg (by omega)] at hat
     have hsz:=swp_size f k m
     (repeat' first|(refine Na ?_ fun _ _=>?_;(focus lia);cbv)|(refine Ex.arr O b0 hv ?_ ?_;(focus lia);cbv)|(refine Ex.arr O b1 hx ?_ ?_;(focus lia);cbv)|(refine Ex.arr O b2 hy ?_ ?_;(focus lia);cbv)|(refine Ex.swp O b2 hy (by assumption) rfl ?_ ?_;(focus lia);cbv)|(refine CallThen.mk _ _ (C.fn (kd)) ?_;cbv)|(refine Back.to (k+1,m-1,swp f k m) [] [] ?_ fun _ _=>?_;rotate_left;cbv)|(refine Nl fun _ _ hq=>?_;(try simp only [lenS] at hq);cbv)|(refine Nm fun _ _=>?_;cbv)|(refine Br.t ?_ ?_;(focus first|assumption|lia);cbv)|(refine Br.f ?_ ?_;(focus first|assumption|lia);cbv)|(refine Need.mk ?_ ?_;rotate_left;cbv))
     all_goals first
      | (rename_i y' hy';subst hy';refine⟨WkR.of_eq (swp_rows O b1 b2 hx hy (by assumption) (by assumption) rfl rfl (by lia) (by lia)).symm,?_,?_,trivial⟩<;>(clear hx hy hv kd hat;lia))
      | exact⟨⟨by dsimp only;omega,by dsimp only;omega,by dsimp only;omega,hat.symm⟩,by dsimp only;omega⟩
      | (clear hx hy hv kd hat;lia)
      | trace_state
   ·have hm3:m=J2:=by rw[← m2];exact(scanDown_stop fun h=>absurd h hkm).symm
    subst hm3
    clear m2
    have kd:=trivial
    rw[if_pos (by omega)] at hat
    subst hat
    have hmi:mi=k:=hmi
    (repeat' first|(refine Br.t ?_ ?_;(focus first|assumption|lia);cbv)|(refine Br.f ?_ ?_;(focus first|assumption|lia);cbv)|(refine R0 ?_;cbv))
    all_goals first
     | exact⟨hmi.symm,.refl _,trivial⟩
     | exact⟨.refl _,hmi.symm,trivial⟩
     | ((repeat' apply And.intro)<;>first|exact True.intro|exact WkR.refl _|(clear hv kd;lia))
     | (clear hv kd;lia)
     | trace_state
 ·have hk3:k=I2:=by rw[← k2];exact(scanUp_stop fun h=>absurd h hkj).symm
  subst hk3
  clear k2
  have hj3:j=J2:=by rw[hJ2];exact(scanDown_stop fun h=>absurd h hkj).symm
  subst hj3
  clear hJ2
  (repeat' first|(refine Br.f ?_ ?_;(focus first|assumption|lia);cbv))
  obtain⟨m0,hm0⟩:∃ m0:Nat,m0=j:=⟨_,rfl⟩
  refine LoopThen.mk (C.loopAt (ι:=Nat) [(12,12),(50,67)] (fun m=>[(12,.int .i64 m)]) (fun _=>[(0,.arr 0 none 2 (O.o arrE f))])
   (fun m=>m=j) (fun m=>m) (by decide +kernel) (Start.mk m0 [] [] hm0 ?_) ?_)
  ·cbv
   (repeat' apply And.intro)<;>first|exact True.intro|exact WkR.refl _|rfl|(clear hv hat e6;lia)|trace_state
  intro m g
  cbv
  have m1:m≤j:=Nat.le_of_eq g
  have g:m=j:=g
  subst g
  clear hm0
  have kd:=trivial
  rw[if_pos (by omega)] at hat
  subst hat
  have hmi:mi=k:=hmi
  (repeat' first|(refine Br.t ?_ ?_;(focus first|assumption|lia);cbv)|(refine Br.f ?_ ?_;(focus first|assumption|lia);cbv)|(refine R0 ?_;cbv))
  all_goals first
   | exact⟨hmi.symm,.refl _,trivial⟩
   | exact⟨.refl _,hmi.symm,trivial⟩
   | ((repeat' apply And.intro)<;>first|exact True.intro|exact WkR.refl _|(clear hv kd;lia))
   | (clear hv kd;lia)
   | trace_state
end Go.Sym
