/- Values as bytes: the document's texts. -/
import Derived.Test.YtjlefaabcalkkaaGreatDoorK25
import Derived.Test.YtjlefaabcalkkaaGreatDoorK24
set_option linter.all false
set_option linter.unusedVariables false
set_option linter.unusedSimpArgs false
namespace Go.Sym
open Go Go.Proofs.Tryz
set_option maxRecDepth 100000
set_option maxHeartbeats 4000000 in
theorem rkText2_fn (O:Opq):∀ (m:Nat) (s:List UInt8),s.length≤m→s.length≤1000→Fn prog 124 [.str (O.o ofL s)] [] [.ref 0] [.arr 0 none 1 (O.o bts (txtB s))]:=by
 intro m
 induction m using Nat.strongRecOn with
 | ind m ih =>
 intro s hm hs
 obtain⟨N,g1⟩:∃ N,N=txtB s:=⟨_,rfl⟩
 rw[← g1]
 have hss:(O.o ofL s).size=s.length:=by rw[O.h];rfl
 by_cases h7:7≤s.length
 ·rw[txtB_long h7] at g1
  obtain⟨t7,e1⟩:∃ t,t=s.take 7:=⟨_,rfl⟩
  obtain⟨s2,e2⟩:∃ t,t=s.drop 7:=⟨_,rfl⟩
  have n1:t7.length=7:=by rw[e1,List.length_take];omega
  have n2:s2.length=s.length-7:=by rw[e2,List.length_drop]
  have q1:=ofL_take O s 7
  have q2:=ofL_drop O s 7
  rw[← e1,← e2] at g1
  rw[← e1] at q1
  rw[← e2] at q2
  have q3:=rkRows_of O t7
  have q5:O.o bts t7++[[PV.int .u8 8]]=O.o bts (t7++[8]):=by rw[← rows_app];simp only [O.h];rfl
  obtain⟨l3,e4⟩:∃ t,t=t7++[8]:=⟨_,rfl⟩
  have n3:l3.length=8:=by rw[e4,List.length_append,n1];rfl
  rw[← e4] at q5 g1
  have kr:=ih (m-1) (by omega) s2 (by omega) (by omega)
  have n4:=txtB_len _ s2 (Nat.le_refl _)
  obtain⟨T,e5⟩:∃ t,t=txtB s2:=⟨_,rfl⟩
  rw[← e5] at g1 kr n4
  have q6:=rows_app O l3 T
  rw[← g1] at q6
  have m1:=rows_len O t7
  have m2:=rows_len O l3
  have m3:=rows_len O T
  have m4:(O.o ofL t7).size=t7.length:=by rw[O.h];rfl
  clear e1 e2 e4 e5 g1 ih
  refine go (fn:=Proofs.Tryz.f124) (n:=29) (rv:=[ResultVar.tmp 2]) rfl (by decide) rfl (by decide +kernel) rfl rfl (by simp) fun F L C=>?_
  cbv
  (repeat' first|(refine Named.val (O.o ofL t7) q1 ?_;cbv)|(refine Named.val (O.o ofL s2) q2 ?_;cbv)|(refine Named.val (O.o bts t7) q3 ?_;cbv)|(refine Named.val (O.o bts l3) q5 ?_;cbv)|(refine Named.val (O.o bts N) q6 ?_;cbv)|(refine CallThen.mk _ _ (C.fn (kr)) ?_;cbv)|(refine RetThen.mk [(0,.loc 1088)] [] ?_;cbv)|(refine Nm fun _ _=>?_;cbv)|(refine Br.t ?_ ?_;(focus first|assumption|lia);cbv)|(refine Need.mk ?_ ?_;rotate_left;cbv))
  all_goals first
   | exact⟨.refl _,trivial⟩
   | ((try simp only [List.length_cons,List.length_nil]);clear q1 q2 q3 q5 q6 kr;lia)
   | trace_state
 ·rw[txtB_short h7] at g1
  have q1:=rkRows_of O s
  have m0:=rows_len O s
  obtain⟨M,hM⟩:∃ M,M=O.o bts N:=⟨_,rfl⟩
  rw[← hM]
  obtain⟨z,hz⟩:∃ z:Nat,z=0:=⟨_,rfl⟩
  obtain⟨E,hE⟩:∃ E:Nat→List UInt8,E=fun k=>s++List.replicate k 0:=⟨_,rfl⟩
  have hE0:O.o bts s=O.o bts (E z):=by rw[hE,hz];simp
  have hES:∀ k,O.o bts (E k)++[[PV.int .u8 0]]=O.o bts (E (k+1)):=fun k=>by
   have:E (k+1)=E k++[0]:=by rw[hE];simp [List.replicate_succ']
   rw[this,← rows_app];simp only [O.h];rfl
  have hEl:∀ k,(O.o bts (E k)).length=s.length+k:=fun k=>by rw[rows_len,hE];simp
  obtain⟨c,hc⟩:∃ c,c=7-s.length:=⟨_,rfl⟩
  have q5:∀ v:Int,v=s.length→O.o bts (E c)++[[PV.int .u8 v]]=M:=fun v h=>by rw[hM,g1,hc];rw[hE];exact(bts_snoc O _ (n:=s.length) (by omega) h).symm
  clear hE g1 hM ih
  refine go (fn:=Proofs.Tryz.f124) (n:=29) (rv:=[ResultVar.tmp 2]) rfl (by decide) rfl (by decide +kernel) rfl rfl (by simp) fun F L C=>?_
  cbv
  (repeat' first|(refine Named.val (O.o bts s) q1 ?_;cbv)|(refine Nm fun _ _=>?_;cbv)|(refine Br.f ?_ ?_;(focus first|assumption|lia);cbv)|(refine Need.mk ?_ ?_;rotate_left;cbv))
  all_goals try(clear q1 q5 hE0 hES hEl;lia)
  refine LoopThen.mk (C.loopAt (ι:=Nat) [(3,29)] (fun k=>[(3,.ref 50)]) (fun k=>[(50,.arr 0 none 1 (O.o bts (E k)))])
   (fun k=>k≤c) (fun k=>c-k) (by decide +kernel) (Start.mk z [(50,.loc 1216)] [] (show z≤c by omega) ?_) ?_)
  ·cbv
   (repeat' apply And.intro)<;>first|exact True.intro|exact WkR.refl _|exact WkR.of_eq hE0.symm|rfl|trace_state
  clear hE0 hz
  intro k g
  cbv
  replace g:k≤c:=g
  have hk:=hEl k
  have hk1:=hEl (k+1)
  have hS:=hES k
  by_cases h:k<c
  ·obtain⟨X,hX⟩:∃ X,X=E (k+1):=⟨_,rfl⟩
   rw[← hX] at hS hk1
   clear hES hEl q5
   (repeat' first|(refine Named.val (O.o bts X) hS ?_;cbv)|(refine Back.to (k+1) [(50,.loc 1600)] [] ?_ fun _ _=>?_;rotate_left;cbv)|(refine Nm fun _ _=>?_;cbv)|(refine Br.t ?_ ?_;(focus first|assumption|lia);cbv)|(refine Need.mk ?_ ?_;rotate_left;cbv))
   all_goals first
    | exact⟨by omega,by dsimp only;omega⟩
    | (rename_i y hy;subst hy;rw[hX];exact⟨WkR.refl _,trivial⟩)
    | ((try simp only [List.length_cons,List.length_nil]);clear q1 hS hX;lia)
    | trace_state
  ·obtain rfl:k=c:=by omega
   obtain⟨X,hX⟩:∃ X,X=E k:=⟨_,rfl⟩
   rw[← hX] at q5 hk ⊢
   clear hES hEl hS hk1 hX
   (repeat' first|(refine Named.val M (q5 _ ?_) ?_;(focus(clear q1;lia));cbv)|(refine Named.w8s ?_ fun _ _=>?_;(focus(clear q1 q5;lia));cbv)|(refine RetThen.mk [(0,.loc 1984)] [] ?_;cbv)|(refine Nm fun _ _=>?_;cbv)|(refine Br.f ?_ ?_;(focus first|assumption|lia);cbv)|(refine Need.mk ?_ ?_;rotate_left;cbv))
   all_goals first
    | exact⟨.refl _,trivial⟩
    | ((try simp only [List.length_cons,List.length_nil]);clear q1 q5;lia)
    | trace_state
def modeOf2 (f:Nat) (l:List Mode) (f2:Nat) (l2:List Mode):Nat→List Mode:=fun g=>match Nat.beq g f with
 | true=>l
 | false=>modeOf f2 l2 g
theorem rows_one (O:Opq) (n:Nat) (h:n<256) (T:List UInt8) {v:Int} (hv:v=n):[[PV.int .u8 v]]++O.o bts T=O.o bts (UInt8.ofNat n::T):=by
 subst hv
 simp only [O.h,bts,List.map_cons,List.singleton_append]
 rw[UInt8.toNat_ofNat',show n % 2 ^ 8=n by omega]
set_option maxHeartbeats 4000000 in
theorem rkOne_fn (O:Opq) (v:Val) (hv:v.Ok):Fn prog 93 [.agg v.enc] [] [.ref 0] [.arr 0 none 1 (O.o bts (oneB v))]:=by
 have hl:=oneB_len hv
 obtain⟨N,hN⟩:∃ N,N=oneB v:=⟨_,rfl⟩
 rw[← hN] at hl ⊢
 have hN:=hN
 unfold oneB at hN
 obtain⟨kd,nm,tx,re,im⟩:=v
 rcases hv with ⟨h1,h2,h3,h4,h5,h6⟩ | ⟨h1,h2,h3,h4,h5,h6,h7⟩ | ⟨h1,h2,h3,h4,h5⟩
 ·replace h1:kd=1:=h1
  subst h1
  rw[if_pos rfl] at hN
  have k1:=rkNum2_fn O nm (by dsimp only at *;omega)
  have q1:[[PV.int .u8 1]]++O.o bts (num8 nm)=O.o bts N:=by rw[hN];exact rows_one O 1 (by decide) _ rfl
  obtain⟨T,hT⟩:∃ T,T=num8 nm:=⟨_,rfl⟩
  have n1:T.length=8:=by rw[hT,num8_len]
  rw[← hT] at k1 q1
  have m1:=rows_len O T
  clear hN hT h2 h3 h4 h5 h6
  refine go (fn:=Proofs.Tryz.f93) (n:=34) (rv:=[ResultVar.tmp 2]) rfl (by decide) rfl (by decide +kernel) rfl rfl (by simp) fun F L C=>?_
  cbv
  (repeat' first|(refine Named.val (1:Int) (show IntKind.u8.wrap 1=1 by decide) ?_;cbv)|(refine Named.val (O.o bts N) q1 ?_;cbv)|(refine CallThen.mk _ _ (C.fn (k1)) ?_;cbv)|(refine RetThen.mk [(0,.loc 1152)] [] ?_;cbv)|(refine Br.t ?_ ?_;(focus first|assumption|lia);cbv)|(refine Need.mk ?_ ?_;rotate_left;cbv))
  all_goals first
   | exact⟨.refl _,trivial⟩
   | ((try simp only [List.length_cons,List.length_nil]);clear q1 k1;lia)
   | trace_state
 ·replace h1:kd=3:=h1
  subst h1
  dsimp only at hN
  rw[if_neg (by decide),if_neg (by decide)] at hN
  have k1:=rkNum2_fn O re (by dsimp only at *;omega)
  have k2:=rkNum2_fn O im (by dsimp only at *;omega)
  obtain⟨T,hT⟩:∃ T,T=num8 re:=⟨_,rfl⟩
  obtain⟨T2,hT2⟩:∃ T,T=num8 im:=⟨_,rfl⟩
  have n1:T.length=8:=by rw[hT,num8_len]
  have n2:T2.length=8:=by rw[hT2,num8_len]
  have q1:[[PV.int .u8 3]]++O.o bts T=O.o bts (3::T):=rows_one O 3 (by decide) _ rfl
  obtain⟨N1,hN1⟩:∃ T',T'=3::T:=⟨_,rfl⟩
  rw[← hN1] at q1
  have q2:O.o bts N1++O.o bts T2=O.o bts N:=by rw[rows_app,hN,hN1,hT,hT2];rfl
  have n3:N1.length=9:=by rw[hN1,List.length_cons,n1]
  rw[← hT] at k1
  rw[← hT2] at k2
  have m1:=rows_len O T
  have m2:=rows_len O T2
  have m3:=rows_len O N1
  clear hN hT hT2 hN1 h2 h3 h4 h5 h6 h7
  refine go (fn:=Proofs.Tryz.f93) (n:=34) (rv:=[ResultVar.tmp 2]) rfl (by decide) rfl (by decide +kernel) rfl rfl (by simp) fun F L C=>?_
  cbv
  (repeat' first|(refine Named.val (3:Int) (show IntKind.u8.wrap 3=3 by decide) ?_;cbv)|(refine Named.val (O.o bts N1) q1 ?_;cbv)|(refine Named.val (O.o bts N) q2 ?_;cbv)|(refine CallThen.mk _ _ (C.fn (k1)) ?_;cbv)|(refine CallThen.mk _ _ (C.fn (k2)) ?_;cbv)|(refine RetThen.mk [(0,.loc 2304)] [] ?_;cbv)|(refine Br.f ?_ ?_;(focus first|assumption|lia);cbv)|(refine Need.mk ?_ ?_;rotate_left;cbv))
  all_goals first
   | exact⟨.refl _,trivial⟩
   | ((try simp only [List.length_cons,List.length_nil]);clear q1 q2 k1 k2;lia)
   | trace_state
 ·replace h1:kd=2:=h1
  subst h1
  dsimp only at hN
  rw[if_neg (by decide),if_pos rfl] at hN
  have hsz:tx.data.toList.length≤256:=h5
  have k1:=rkText2_fn O _ tx.data.toList (Nat.le_refl _) (by omega)
  rw[show O.o ofL tx.data.toList=tx by rw[O.h];exact ofL_toL tx] at k1
  have n1:=txtB_len _ tx.data.toList (Nat.le_refl _)
  obtain⟨T,hT⟩:∃ T,T=txtB tx.data.toList:=⟨_,rfl⟩
  have q1:[[PV.int .u8 2]]++O.o bts T=O.o bts N:=by rw[hN,hT];exact rows_one O 2 (by decide) _ rfl
  rw[← hT] at k1 n1
  have m1:=rows_len O T
  clear hN hT h2 h3 h4 h5
  refine go (fn:=Proofs.Tryz.f93) (n:=34) (rv:=[ResultVar.tmp 2]) rfl (by decide) rfl (by decide +kernel) rfl rfl (by simp) fun F L C=>?_
  cbv
  (repeat' first|(refine Named.val (2:Int) (show IntKind.u8.wrap 2=2 by decide) ?_;cbv)|(refine Named.val (O.o bts N) q1 ?_;cbv)|(refine CallThen.mk _ _ (C.fn (k1)) ?_;cbv)|(refine RetThen.mk [(0,.loc 1600)] [] ?_;cbv)|(refine Br.t ?_ ?_;(focus first|assumption|lia);cbv)|(refine Br.f ?_ ?_;(focus first|assumption|lia);cbv)|(refine Need.mk ?_ ?_;rotate_left;cbv))
  all_goals first
   | exact⟨.refl _,trivial⟩
   | ((try simp only [List.length_cons,List.length_nil]);clear q1 k1;lia)
   | trace_state
end Go.Sym
