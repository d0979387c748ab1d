/- Values as bytes: lists' keys. -/
import Derived.Test.YtjlefaabcalkkaaGreatDoorK26
import Derived.Lib.Strings
set_option linter.all false
set_option linter.unusedVariables false
set_option linter.unusedSimpArgs false
namespace Go.Sym
open Go Go.Proofs.Tryz
set_option maxRecDepth 100000
theorem keyB_take {vs:List Val} {k:Nat} {x:Val} (h:vs[k]?=some x):keyB (vs.take (k+1))=keyB (vs.take k)++oneB x:=by
 rw[List.take_add_one,h];exact keyB_snoc _ _
theorem keyB_tlen {vs:List Val} (h:∀ v∈vs,v.Ok) (hl:vs.length≤16) (k:Nat):(keyB (vs.take k)).length≤16000:=by
 have:=keyB_len (l:=vs.take k) fun v hv=>h v (List.mem_of_mem_take hv)
 have h2:(vs.take k).length≤vs.length:=by rw[List.length_take];exact Nat.min_le_right _ _
 omega
theorem rkBytesOf (O:Opq) (l:List UInt8):O.o bts l=byteRows (O.o ofL l):=(rkRows_of O l).symm
set_option maxHeartbeats 4000000 in
theorem rkKey2_fn (O:Opq) (vs:List Val) (hok:∀ v∈vs,v.Ok) (hl:vs.length≤16):Fn prog 63 [.sl false 0 false 5 (O.o Vals.enc vs)] [] [.str (O.o ofL (O.o keyB vs)),.int .i64 0] []:=by
 have hlen:(O.o Vals.enc vs).length=vs.length:=by rw[O.h,Vals.enc_len]
 have hE2:=fun k x (h:vs[k]?=some x)=>keyB_take h
 have hEl:=keyB_tlen hok hl
 have hEe:keyB (vs.take vs.length)=keyB vs:=by rw[List.take_length]
 obtain⟨E,hE⟩:∃ E:Nat→List UInt8,E=fun k=>keyB (vs.take k):=⟨_,rfl⟩
 have hE0:E 0=[]:=by rw[hE];rfl
 have hE2:∀ k x,vs[k]?=some x→O.o bts (E k)++O.o bts (oneB x)=O.o bts (E (k+1)):=fun k x h=>by rw[rows_app,hE];exact congrArg _ (hE2 k x h).symm
 have hEl:∀ k,(E k).length≤16000:=fun k=>by rw[hE];exact hEl k
 have hEe:O.o ofL (E vs.length)=O.o ofL (O.o keyB vs):=by rw[O.h keyB,hE];exact congrArg _ hEe
 obtain⟨RS,hRS⟩:∃ R,R=O.o ofL (O.o keyB vs):=⟨_,rfl⟩
 rw[← hRS] at hEe ⊢
 obtain⟨z,hz⟩:∃ z:Nat,z=0:=⟨_,rfl⟩
 obtain⟨NN,hNN⟩:∃ N:Nat,N=vs.length:=⟨_,rfl⟩
 have hEz:O.o bts (E z)=[]:=by rw[hz,hE0,O.h];rfl
 clear hE hRS hE0
 refine go (fn:=Proofs.Tryz.f63) (n:=33) (rv:=[ResultVar.tmp 2,ResultVar.tmp 3]) rfl (by decide) rfl (by decide +kernel) rfl rfl (by simp) fun F L C=>?_
 cbv
 (repeat' first|(refine Nm fun _ _=>?_;cbv)|(refine Br.f ?_ ?_;(focus first|assumption|lia);cbv))
 all_goals try(clear hE2 hEl hEz hEe hok;lia)
 refine LoopThen.mk (C.loopAt (ι:=Nat) [(4,33)] (fun k=>[(4,.ref 50),(5,.int .i64 k)]) (fun k=>[(50,.arr 0 none 1 (O.o bts (E k)))])
  (fun k=>k≤NN) (fun k=>NN-k) (by decide +kernel) (Start.mk z [(50,.loc 768)] [] (show z≤NN by omega) ?_) ?_)
 ·cbv
  (repeat' apply And.intro)<;>first|exact True.intro|exact WkR.refl _|exact WkR.of_eq hEz|rfl|(clear hE2 hEl hEz hEe hok;lia)|trace_state
 clear hEz hz
 intro k g
 cbv
 replace g:k≤NN:=g
 by_cases hk:k<vs.length
 ·obtain⟨x,hx⟩:∃ x,vs[k]?=some x:=⟨vs[k],by simp [hk]⟩
  have hxo:=hok x (List.mem_of_getElem? hx)
  have kc:=rcheck2_fn O x
  rw[O.h,Val.err_ok.2 hxo] at kc
  have ko:=rkOne_fn O x hxo
  have q:=hE2 k x hx
  have l1:=oneB_len hxo
  have l2:=hEl k
  obtain⟨T,hT⟩:∃ T,T=oneB x:=⟨_,rfl⟩
  obtain⟨X,hX⟩:∃ X,X=E (k+1):=⟨_,rfl⟩
  rw[← hT] at ko l1 q
  rw[← hX] at q
  have m1:=rows_len O T
  have m2:=rows_len O (E k)
  clear hE2 hEl hT hxo hEe hok
  obtain⟨xk,xn,xt,xr,xi⟩:=x
  (repeat' first|(refine Named.val (O.o bts X) q ?_;cbv)|(refine Na ?_ fun _ _=>?_;(focus lia);cbv)|(refine Ex.val O hx ?_ ?_;(focus(clear kc ko q hX hx;lia));cbv)|(refine CallThen.mk _ _ (C.fn (kc)) ?_;cbv)|(refine CallThen.mk _ _ (C.fn (ko)) ?_;cbv)|(refine Back.to (k+1) [(50,.loc 2112)] [] ?_ fun _ _=>?_;rotate_left;cbv)|(refine Nm fun _ _=>?_;cbv)|(refine Br.t ?_ ?_;(focus first|assumption|lia);cbv)|(refine Need.mk ?_ ?_;rotate_left;cbv))
  all_goals first
   | exact⟨by omega,by dsimp only;omega⟩
   | (rename_i y hy;subst hy;rw[hX];(repeat' apply And.intro)<;>first|exact True.intro|exact WkR.refl _|rfl|(clear kc ko q hX hx;lia))
   | (clear kc ko q hX hx;lia)
   | trace_state
 ·have hkn:k=vs.length:=by omega
  rw[← hkn] at hEe
  have hb:=rkBytesOf O (E k)
  rw[hEe] at hb
  have m2:=rows_len O (E k)
  have l2:=hEl k
  clear hE2 hEl hEe hok
  (repeat' first|(refine Ex.mk RS hb ?_;cbv)|(refine Nm fun _ _=>?_;cbv)|(refine Br.f ?_ ?_;(focus first|assumption|lia);cbv)|(refine R0 ?_;cbv))
  all_goals first
   | exact⟨rfl,rfl,trivial⟩
   | exact⟨rfl,trivial⟩
   | (clear hb;lia)
   | trace_state
set_option maxHeartbeats 4000000 in
theorem rkKey_fn (O:Opq) (vs:List Val) (hok:∀ v∈vs,v.Ok) (hl:vs.length≤16):Fn prog 56 [.sl false 0 false 5 (O.o Vals.enc vs)] [] [.str (O.o ofL (O.o keyB vs)),.int .i64 0] []:=by
 have hlen:(O.o Vals.enc vs).length=vs.length:=by rw[O.h,Vals.enc_len]
 have hE2:=fun k x (h:vs[k]?=some x)=>keyB_take h
 have hEl:=keyB_tlen hok hl
 have hEe:keyB (vs.take vs.length)=keyB vs:=by rw[List.take_length]
 obtain⟨E,hE⟩:∃ E:Nat→List UInt8,E=fun k=>keyB (vs.take k):=⟨_,rfl⟩
 have hE0:E 0=[]:=by rw[hE];rfl
 have hE2:∀ k x,vs[k]?=some x→E k++oneB x=E (k+1):=fun k x h=>by rw[hE];exact(hE2 k x h).symm
 have hEl:∀ k,(E k).length≤16000:=fun k=>by rw[hE];exact hEl k
 have hEe:O.o ofL (E vs.length)=O.o ofL (O.o keyB vs):=by rw[O.h keyB,hE];exact congrArg _ hEe
 obtain⟨RS,hRS⟩:∃ R,R=O.o ofL (O.o keyB vs):=⟨_,rfl⟩
 rw[← hRS] at hEe ⊢
 obtain⟨z,hz⟩:∃ z:Nat,z=0:=⟨_,rfl⟩
 obtain⟨NN,hNN⟩:∃ N:Nat,N=vs.length:=⟨_,rfl⟩
 have hEz:O.o bts (E z)=[]:=by rw[hz,hE0,O.h];rfl
 clear hE hRS hE0
 refine goM (modeOf2 77 [.own] 78 [.own]) (fn:=Proofs.Tryz.f56) (n:=53) (rv:=[ResultVar.tmp 2,ResultVar.tmp 3]) rfl (by decide) rfl (by decide +kernel) rfl rfl (by simp) fun F L C=>?_
 cbv
 (repeat' first|(refine Nm fun _ _=>?_;cbv)|(refine Br.f ?_ ?_;(focus first|assumption|lia);cbv))
 all_goals try(clear hE2 hEl hEz hEe hok;lia)
 refine LoopThen.mk (C.loopAt (ι:=Nat) [(4,53)] (fun k=>[(4,.ref 50),(11,.sl false 0 false 5 (O.o Vals.enc vs)),(12,.int .i64 NN),(13,.int .i64 k)]) (fun k=>[(50,.arr 0 none 1 (O.o bts (E k)))])
  (fun k=>k≤NN) (fun k=>NN-k) (by decide +kernel) (Start.mk z [(50,.nil 1)] [] (show z≤NN by omega) ?_) ?_)
 ·cbv
  (repeat' apply And.intro)<;>first|exact True.intro|exact WkR.refl _|exact WkR.of_eq hEz|exact hEz|rfl|(clear hE2 hEl hEz hEe hok;lia)|trace_state
 clear hEz hz
 intro k g
 cbv
 replace g:k≤NN:=g
 by_cases hk:k<vs.length
 ·obtain⟨x,hx⟩:∃ x,vs[k]?=some x:=⟨vs[k],by simp [hk]⟩
  have hxo:=hok x (List.mem_of_getElem? hx)
  have kc:=rcheck_fn O x
  rw[O.h,Val.err_ok.2 hxo] at kc
  have q0:=hE2 k x hx
  have l2:=hEl k
  obtain⟨X,hX⟩:∃ X,X=E (k+1):=⟨_,rfl⟩
  rw[← hX] at q0
  have l3:X.length≤16000:=by rw[hX];exact hEl _
  have m2:=rows_len O (E k)
  clear hE2 hEl hEe hok
  obtain⟨xk,xn,xt,xr,xi⟩:=x
  unfold oneB at q0
  rcases hxo with ⟨h1,h2,h3,h4,h5,h6⟩ | ⟨h1,h2,h3,h4,h5,h6,h7⟩ | ⟨h1,h2,h3,h4,h5⟩
  ·replace h1:xk=1:=h1
   subst h1
   dsimp only at q0 h5 h6
   rw[if_pos rfl] at q0
   have k1:=rkNum_fn O 2 (E k++[1]) xn (by omega) (by simp;omega)
   rw[show(E k++[1])++num8 xn=X by rw[← q0,List.append_assoc];rfl] at k1
   have q:=(bts_snoc O (E k) (n:=1) (v:=1) (by decide) rfl).symm
   obtain⟨B1,hB1⟩:∃ B,B=E k++[UInt8.ofNat 1]:=⟨_,rfl⟩
   rw[show E k++[1]=B1 from hB1.symm] at k1
   rw[← hB1] at q
   clear hB1 q0 h2 h3 h4 h5 h6
   (repeat' first|(refine Named.val (1:Int) (show IntKind.u8.wrap 1=1 by decide) ?_;cbv)|(refine Named.val (O.o bts B1) q ?_;cbv)|(refine Na ?_ fun _ _=>?_;(focus lia);cbv)|(refine Ex.val O hx ?_ ?_;(focus(clear kc q k1 hX hx;lia));cbv)|(refine CallThen.mk _ _ (C.fn (kc)) ?_;cbv)|(refine CallThen.mk _ _ (C.fn (k1)) ?_;cbv)|(refine Back.to (k+1) [(50,.loc 2944)] [] ?_ fun _ _=>?_;rotate_left;cbv)|(refine Br.t ?_ ?_;(focus first|assumption|lia);cbv)|(refine Need.mk ?_ ?_;rotate_left;cbv))
   all_goals first
    | exact⟨by omega,by dsimp only;omega⟩
    | (rename_i y hy;subst hy;rw[hX];(repeat' apply And.intro)<;>first|exact True.intro|exact WkR.refl _|rfl|(clear kc q k1 hX hx;lia))
    | ((try simp only [List.length_cons,List.length_nil]);clear kc q k1 hX hx;lia)
    | trace_state
  ·replace h1:xk=3:=h1
   subst h1
   dsimp only at q0 h4 h5 h6 h7
   rw[if_neg (by decide),if_neg (by decide)] at q0
   have k1:=rkNum_fn O 2 (E k++[3]) xr (by omega) (by simp;omega)
   have k2:=rkNum_fn O 0 (E k++[3]++num8 xr) xi (by omega) (by rw[List.length_append,num8_len];simp;omega)
   rw[show(E k++[3]++num8 xr)++num8 xi=X by rw[← q0,List.append_assoc,List.append_assoc];rfl] at k2
   obtain⟨B2,hB2⟩:∃ B,B=E k++[3]++num8 xr:=⟨_,rfl⟩
   rw[← hB2] at k1 k2
   have q:=(bts_snoc O (E k) (n:=3) (v:=3) (by decide) rfl).symm
   obtain⟨B1,hB1⟩:∃ B,B=E k++[UInt8.ofNat 3]:=⟨_,rfl⟩
   rw[show E k++[3]=B1 from hB1.symm] at k1
   rw[← hB1] at q
   clear hB1 hB2 q0 h2 h3 h4 h5 h6 h7
   (repeat' first|(refine Named.val (3:Int) (show IntKind.u8.wrap 3=3 by decide) ?_;cbv)|(refine Named.val (O.o bts B1) q ?_;cbv)|(refine Na ?_ fun _ _=>?_;(focus lia);cbv)|(refine Ex.val O hx ?_ ?_;(focus(clear kc q k1 k2 hX hx;lia));cbv)|(refine CallThen.mk _ _ (C.fn (kc)) ?_;cbv)|(refine CallThen.mk _ _ (C.fn (k1)) ?_;cbv)|(refine CallThen.mk _ _ (C.fn (k2)) ?_;cbv)|(refine Back.to (k+1) [(50,.loc 2560)] [] ?_ fun _ _=>?_;rotate_left;cbv)|(refine Br.t ?_ ?_;(focus first|assumption|lia);cbv)|(refine Br.f ?_ ?_;(focus first|assumption|lia);cbv)|(refine Need.mk ?_ ?_;rotate_left;cbv))
   all_goals first
    | exact⟨by omega,by dsimp only;omega⟩
    | (rename_i y hy;subst hy;rw[hX];(repeat' apply And.intro)<;>first|exact True.intro|exact WkR.refl _|rfl|(clear kc q k1 k2 hX hx;lia))
    | ((try simp only [List.length_cons,List.length_nil]);clear kc q k1 k2 hX hx;lia)
    | trace_state
  ·replace h1:xk=2:=h1
   subst h1
   dsimp only at q0 h5
   rw[if_neg (by decide),if_pos rfl] at q0
   have hsz:xt.data.toList.length≤256:=h5
   have k1:=rkText_fn O 2 (E k++[2]) xt.data.toList (by omega) (by simp;omega)
   rw[show(E k++[2])++txtB xt.data.toList=X by rw[← q0,List.append_assoc];rfl] at k1
   rw[show O.o ofL xt.data.toList=xt by rw[O.h];exact ofL_toL xt] at k1
   have q:=(bts_snoc O (E k) (n:=2) (v:=2) (by decide) rfl).symm
   obtain⟨B1,hB1⟩:∃ B,B=E k++[UInt8.ofNat 2]:=⟨_,rfl⟩
   rw[show E k++[2]=B1 from hB1.symm] at k1
   rw[← hB1] at q
   clear hB1 q0 h2 h3 h4 h5
   (repeat' first|(refine Named.val (2:Int) (show IntKind.u8.wrap 2=2 by decide) ?_;cbv)|(refine Named.val (O.o bts B1) q ?_;cbv)|(refine Na ?_ fun _ _=>?_;(focus lia);cbv)|(refine Ex.val O hx ?_ ?_;(focus(clear kc q k1 hX hx;lia));cbv)|(refine CallThen.mk _ _ (C.fn (kc)) ?_;cbv)|(refine CallThen.mk _ _ (C.fn (k1)) ?_;cbv)|(refine Back.to (k+1) [(50,.loc 3328)] [] ?_ fun _ _=>?_;rotate_left;cbv)|(refine Br.t ?_ ?_;(focus first|assumption|lia);cbv)|(refine Br.f ?_ ?_;(focus first|assumption|lia);cbv)|(refine Need.mk ?_ ?_;rotate_left;cbv))
   all_goals first
    | exact⟨by omega,by dsimp only;omega⟩
    | (rename_i y hy;subst hy;rw[hX];(repeat' apply And.intro)<;>first|exact True.intro|exact WkR.refl _|rfl|(clear kc q k1 hX hx;lia))
    | ((try simp only [List.length_cons,List.length_nil]);clear kc q k1 hX hx;lia)
    | trace_state
 ·have hkn:k=vs.length:=by omega
  rw[← hkn] at hEe
  have hb:=rkBytesOf O (E k)
  rw[hEe] at hb
  have m2:=rows_len O (E k)
  have l2:=hEl k
  clear hE2 hEl hEe hok
  (repeat' first|(refine Ex.mk RS hb ?_;cbv)|(refine Br.f ?_ ?_;(focus first|assumption|lia);cbv)|(refine R0 ?_;cbv))
  all_goals first
   | exact⟨rfl,rfl,trivial⟩
   | exact⟨rfl,trivial⟩
   | (clear hb;lia)
   | trace_state
theorem r11docs_fn (O:Opq) (l:List Ndoc) (hl:l.length≤1099511627776) (hd:∀ n∈l,n.doc.length≤1099511627776∧∀ f∈n.doc,f.path.size≤9223372036854775807):Fn prog 15 [.sl false 0 false 2 (O.o (Nms.enc O) l)] [] [.bool (O.o docsOk l)] []:=by
 have hlen:=Nms.len O l
 have hbad:docsOk l=false→O.o docsOk l=false:=fun h=>by rw[O.h];exact h
 have hgood:docsOk l=true→O.o docsOk l=true:=fun h=>by rw[O.h];exact h
 obtain⟨Q,eQ⟩:∃ Q,Q=O.o docsOk l:=⟨_,rfl⟩
 rw[← eQ] at hbad hgood ⊢
 obtain⟨N,hN⟩:∃ N:Nat,N=l.length:=⟨_,rfl⟩
 obtain⟨z,hz⟩:∃ z:Nat,z=0:=⟨_,rfl⟩
 clear eQ
 refine go (fn:=Proofs.Tryz.f15) (n:=52) (rv:=[ResultVar.tmp 2]) rfl (by decide) rfl (by decide +kernel) rfl rfl (by simp) fun F L C=>?_
 cbv
 skip
 refine LoopThen.mk (C.loopAt (ι:=Nat) [(2,52)] (fun i=>[(2,.bool false),(3,.int .i64 i)]) (fun _=>[])
  (fun i=>i≤N∧∀ j,j<i→okN l j) (fun i=>N-i) (by decide +kernel) (Start.mk z [] [] ⟨by lia,fun j hj=>by omega⟩ (by cbv;(repeat' apply And.intro)<;>first|exact True.intro|exact WkR.refl _|rfl|lia)) ?_)
 intro i g
 cbv
 have g1:i≤N:=g.1
 have g2:=g.2
 clear g
 by_cases hi:i<l.length
 ·obtain⟨x,hx⟩:∃ x,l[i]?=some x:=⟨l[i],by simp [hi]⟩
  have hxd:=hd x (List.mem_of_getElem? hx)
  have hno:¬ (isKey x.key=true∧may x.doc=true∧(0<i→∃ g,l[i-1]?=some g∧slt g.key x.key))→Q=false:=fun h=>hbad (docsOk_bad hx h)
  have hst:(isKey x.key=true∧may x.doc=true∧(0<i→∃ g,l[i-1]?=some g∧slt g.key x.key))→∀ j,j<i+1→okN l j:=fun h=>okN_step g2 ((okN_iff hx).2 h)
  have hc:=may_fn O x.doc hxd.1 hxd.2
  have hk2:isKey x.key=true ↔ 1≤x.key.size∧x.key.size≤64:=by simp [isKey]
  have hc2:O.o may x.doc=may x.doc:=by rw[O.h]
  obtain⟨e,ee⟩:∃ b,b=O.o may x.doc:=⟨_,rfl⟩
  rw[← ee] at hc hc2
  rw[hk2,← hc2] at hno hst
  clear hbad hgood g2 ee hk2 hc2 hd hxd
  by_cases h0:0<i
  ·obtain⟨y,hy⟩:∃ y,l[i-1]?=some y:=⟨l[i-1],by simp⟩
   have hyy:(0<i→∃ g,l[i-1]?=some g∧slt g.key x.key) ↔ slt y.key x.key:=⟨fun h=>by obtain⟨g,h1,h2⟩:=h h0;rw[hy] at h1;cases h1;exact h2,fun h _=>⟨y,hy,h⟩⟩
   rw[hyy] at hno hst
   clear hyy
   obtain⟨xk,xd⟩:=x
   obtain⟨yk,yd⟩:=y
   simp only at hno hst hc
   obtain⟨i1,hi1⟩:∃ j,j=i-1:=⟨_,rfl⟩
   rw[← hi1] at hy
   (repeat' first|(refine Na ?_ fun _ _=>?_;(focus lia);cbv)|(refine Ex.known O (Ndoc.enc O) rfl hx ?_ ?_;(focus lia);cbv)|(refine Ex.known O (Ndoc.enc O) rfl hy ?_ ?_;(focus lia);cbv)|(refine CallThen.bool (C.fn (hc)) (fun _=>?_) (fun _=>?_)<;>cbv)|(refine Back.up [] [] ?_ ?_ fun _ _=>?_;rotate_left 2;cbv;refine And.intro ?_ ?_)|(refine Nm fun _ _=>?_;cbv)|(refine Br.t ?_ ?_;(focus first|assumption|lia);cbv)|(refine Br.mk (fun _=>?_) (fun _=>?_)<;>cbv)|(refine R0 ?_;cbv))
   all_goals(repeat' apply And.intro)
   all_goals try first
    | exact True.intro
    | exact WkR.refl _
    | (clear hx hy hno hst hc;lia)
   all_goals first
    | (refine hno fun h=>?_;clear hno hst hx hy hc;grind [slt_asymm,slt_irrefl,slt_not])
    | (refine hst ⟨⟨by clear hno hst hx hy hc;lia,by clear hno hst hx hy hc;lia⟩,by assumption,?_⟩;clear hno hst hx hy hc;grind [slt_asymm,slt_irrefl,slt_not])
    | trace_state
  ·have hyy:(0<i→∃ g,l[i-1]?=some g∧slt g.key x.key) ↔ True:=⟨fun _=>trivial,fun _ h=>absurd h h0⟩
   rw[hyy] at hno hst
   clear hyy
   obtain⟨xk,xd⟩:=x
   simp only at hno hst hc
   (repeat' first|(refine Na ?_ fun _ _=>?_;(focus lia);cbv)|(refine Ex.known O (Ndoc.enc O) rfl hx ?_ ?_;(focus lia);cbv)|(refine CallThen.bool (C.fn (hc)) (fun _=>?_) (fun _=>?_)<;>cbv)|(refine Back.up [] [] ?_ ?_ fun _ _=>?_;rotate_left 2;cbv;refine And.intro ?_ ?_)|(refine Nm fun _ _=>?_;cbv)|(refine Br.t ?_ ?_;(focus first|assumption|lia);cbv)|(refine Br.f ?_ ?_;(focus first|assumption|lia);cbv)|(refine Br.mk (fun _=>?_) (fun _=>?_)<;>cbv)|(refine R0 ?_;cbv))
   all_goals(repeat' apply And.intro)
   all_goals try first
    | exact True.intro
    | exact WkR.refl _
    | (clear hx hno hst hc;lia)
   all_goals first
    | (refine hno fun h=>?_;clear hno hst hx hc;grind)
    | (refine hst ⟨⟨by clear hno hst hx hc;lia,by clear hno hst hx hc;lia⟩,by assumption,trivial⟩)
    | trace_state
 ·have hg:=hgood (docsOk_good fun j hj=>g2 j (by omega))
  clear hbad hgood g2 hd
  (repeat' first|(refine Nm fun _ _=>?_;cbv)|(refine Br.f ?_ ?_;(focus first|assumption|lia);cbv)|(refine R0 ?_;cbv))
  all_goals first
   | exact⟨hg,trivial⟩
   | exact⟨hg.symm,trivial⟩
   | (exfalso;lia)
   | trace_state
theorem lessPb_eq (p q:PairK):lessPb p q=ltP p q:=by
 cases h:ltP p q
 ·cases k:lessPb p q
  ·rfl
  ·exact absurd (lessPb_iff.1 k) (ltP_no.1 h)
 ·exact lessPb_iff.2 (ltP_iff.1 h)
theorem takeW_take {α:Type} (f:α→Bool):∀ l:List α,l.takeWhile f=l.take (l.takeWhile f).length∧l.dropWhile f=l.drop (l.takeWhile f).length∧(l.takeWhile f).length≤l.length ∧
  (∀ (i:Nat) x,i<(l.takeWhile f).length→l[i]?=some x→f x=true)∧(∀ x,l[(l.takeWhile f).length]?=some x→f x=false)
 | []=>by simp
 | x::r=>by
  obtain⟨h1,h2,h3,h4,h5⟩:=takeW_take f r
  cases hx:f x
  ·rw[List.takeWhile_cons,List.dropWhile_cons]
   simp [hx]
  ·rw[List.takeWhile_cons,List.dropWhile_cons]
   simp only [hx,if_true,List.length_cons,List.take_succ_cons,List.drop_succ_cons]
   refine⟨by rw[← h1],h2,by omega,fun i y hi hy=>?_,fun y hy=>h5 y (by simpa using hy)⟩
   cases i with
   | zero=>simp at hy;rw[← hy];exact hx
   | succ i=>exact h4 i y (by omega) (by simpa using hy)
theorem prs_snoc (O:Opq) (l:List PairK) (p:PairK):O.o Prs.enc l++[p.enc]=O.o Prs.enc (l++[p]):=by simp only [O.h,Prs.enc,List.map_append,List.map_cons,List.map_nil]
theorem prs_app (O:Opq) (l m:List PairK):O.o Prs.enc l++O.o Prs.enc m=O.o Prs.enc (l++m):=by simp only [O.h,Prs.enc,List.map_append]
theorem prs_drop (O:Opq) (l:List PairK) (n:Nat):(O.o Prs.enc l).drop n=O.o Prs.enc (l.drop n):=by simp only [O.h,Prs.enc,List.map_drop]
set_option maxHeartbeats 4000000 in
theorem rput_fn (O:Opq) (l:List PairK) (p:PairK) (hl:l.length≤1000000):Fn prog 64 [.sl true 0 false 2 (O.o Prs.enc l),.agg p.enc] [] [.ref 0] [.arr 0 none 2 (O.o Prs.enc (putP l p))]:=by
 obtain⟨h1,h2,h3,h4,h5⟩:=takeW_take (fun q=>ltP q p) l
 have hp:putP l p=l.takeWhile (fun q=>ltP q p)++p::l.dropWhile (fun q=>ltP q p):=rfl
 rw[h1,h2] at hp
 obtain⟨n,hn⟩:∃ n,n=(l.takeWhile (fun q=>ltP q p)).length:=⟨_,rfl⟩
 rw[← hn] at hp h3 h4 h5
 clear h1 h2 hn
 have hlen:=Prs.len O l
 obtain⟨E,hE⟩:∃ E:Nat→List PairK,E=fun k=>l.take k:=⟨_,rfl⟩
 have hE0:O.o Prs.enc (E 0)=[]:=by rw[hE];simp only [O.h];rfl
 have hEs:∀ k x,l[k]?=some x→O.o Prs.enc (E k)++[x.enc]=O.o Prs.enc (E (k+1)):=fun k x h=>by rw[prs_snoc,hE];simp only [List.take_add_one,h];rfl
 have hEl:∀ k,k≤l.length→(O.o Prs.enc (E k)).length=k:=fun k h=>by rw[Prs.len,hE,List.length_take];omega
 have q1:=prs_snoc O (E n) p
 have q2:∀ v:Int,v=n→(O.o Prs.enc l).drop v.toNat=O.o Prs.enc (l.drop n):=fun v h=>by rw[show v.toNat=n by omega];exact prs_drop O l n
 have q3:=prs_app O (E n++[p]) (l.drop n)
 rw[show E n++[p]++l.drop n=putP l p by rw[hp,hE];simp] at q3
 have m1:=Prs.len O (E n++[p])
 have m0:=hEl n h3
 rw[Prs.len] at m0
 rw[List.length_append,m0,List.length_singleton] at m1
 have m2:=Prs.len O (l.drop n)
 rw[List.length_drop] at m2
 obtain⟨R1,eR1⟩:∃ R,R=O.o Prs.enc (E n++[p]):=⟨_,rfl⟩
 obtain⟨R2,eR2⟩:∃ R,R=O.o Prs.enc (l.drop n):=⟨_,rfl⟩
 obtain⟨R3,eR3⟩:∃ R,R=O.o Prs.enc (putP l p):=⟨_,rfl⟩
 rw[← eR1] at q1 q3 m1
 rw[← eR2] at q2 q3 m2
 rw[← eR3] at q3 ⊢
 clear eR1 eR2 eR3 hp hE m0
 obtain⟨z,hz⟩:∃ z:Nat,z=0:=⟨_,rfl⟩
 rw[← hz] at hE0
 have kl:=fun x=>rless_fn O x p
 obtain⟨pa,pb⟩:=p
 have q1':O.o Prs.enc (E n)++[[.str pa,.str pb]]=R1:=q1
 refine go (fn:=Proofs.Tryz.f64) (n:=38) (rv:=[ResultVar.tmp 4]) rfl (by decide) rfl (by decide +kernel) rfl rfl (by simp) fun F L C=>?_
 cbv
 skip
 refine LoopThen.mk (C.loopAt (ι:=Nat) [(5,39)] (fun k=>[(5,.ref 50),(6,.int .i64 k)]) (fun k=>[(50,.arr 0 none 2 (O.o Prs.enc (E k))),(320,.box [.str pa,.str pb])])
  (fun k=>k≤n) (fun k=>n-k) (by decide +kernel) (Start.mk z [(50,.loc 640)] [] (show z≤n by omega) ?_) ?_)
 ·cbv
  (repeat' apply And.intro)<;>first|exact True.intro|exact WkR.refl _|exact hE0|exact WkR.of_eq hE0|rfl|(clear kl q1 q1' q2 q3 hE0 hEl hEs h4 h5;lia)|trace_state
 clear hE0 hz
 intro k g
 cbv
 replace g:k≤n:=g
 have hEk:=hEl k (by omega)
 by_cases hk:k<n
 ·obtain⟨x,hx⟩:∃ x,l[k]?=some x:=⟨l[k]'(by omega),by simp⟩
  have kc:=kl x
  have hb:=h4 k x hk hx
  rw[O.h,lessPb_eq,hb] at kc
  have hs:=hEs k x hx
  obtain⟨X,hX⟩:∃ X,X=O.o Prs.enc (E (k+1)):=⟨_,rfl⟩
  rw[← hX] at hs
  clear kl h4 h5 hb hEs hEl q1 q1' q2 q3
  obtain⟨xa,xb⟩:=x
  (repeat' first|(refine Named.val X hs ?_;cbv)|(refine Na ?_ fun _ _=>?_;(focus lia);cbv)|(refine Ex.pair O hx ?_ ?_;(focus(clear kc hs hX;lia));cbv)|(refine CallThen.mk _ _ (C.fn (kc)) ?_;cbv)|(refine Back.to (k+1) [(50,.loc 1984)] [] ?_ fun _ _=>?_;rotate_left;cbv)|(refine Nm fun _ _=>?_;cbv)|(refine Br.t ?_ ?_;(focus first|assumption|lia);cbv)|(refine Need.mk ?_ ?_;rotate_left;cbv))
  all_goals first
   | exact⟨by omega,by dsimp only;omega⟩
   | (rename_i y hy;subst hy;(repeat' apply And.intro)<;>first|exact True.intro|exact WkR.refl _|exact WkR.of_eq hX|exact WkR.of_eq hX.symm|rfl|(clear kc hs hX hx;lia))
   | ((try simp only [List.length_cons,List.length_nil]);clear kc hs hX hx;lia)
   | trace_state
 ·obtain rfl:k=n:=by omega
  clear hEs hEl h4
  by_cases hkl:k<l.length
  ·obtain⟨x,hx⟩:∃ x,l[k]?=some x:=⟨l[k],by simp [hkl]⟩
   have kc:=kl x
   rw[O.h,lessPb_eq,h5 x hx] at kc
   clear kl h5 q1
   obtain⟨xa,xb⟩:=x
   (repeat' first|(refine Named.val R1 q1' ?_;cbv)|(refine Named.val R2 (q2 _ ?_) ?_;(focus(clear q1' q3;lia));cbv)|(refine Named.val R3 q3 ?_;cbv)|(refine Ex.pair O hx ?_ ?_;(focus(clear kc q1' q2 q3;lia));cbv)|(refine CallThen.mk _ _ (C.fn (kc)) ?_;cbv)|(refine RetThen.mk [(0,.loc 2624)] [] ?_;cbv)|(refine Nm fun _ _=>?_;cbv)|(refine Br.t ?_ ?_;(focus first|assumption|lia);cbv)|(refine Need.mk ?_ ?_;rotate_left;cbv))
   all_goals first
    | exact⟨.refl _,trivial⟩
    | ((try simp only [List.length_cons,List.length_nil]);clear kc q1' q2 q3;lia)
    | trace_state
  ·clear kl h5 q1
   (repeat' first|(refine Named.val R1 q1' ?_;cbv)|(refine Named.val R2 (q2 _ ?_) ?_;(focus(clear q1' q3;lia));cbv)|(refine Named.val R3 q3 ?_;cbv)|(refine RetThen.mk [(0,.loc 2624)] [] ?_;cbv)|(refine Nm fun _ _=>?_;cbv)|(refine Br.f ?_ ?_;(focus first|assumption|lia);cbv)|(refine Need.mk ?_ ?_;rotate_left;cbv))
   all_goals first
    | exact⟨.refl _,trivial⟩
    | ((try simp only [List.length_cons,List.length_nil]);clear q1' q2 q3;lia)
    | trace_state
theorem rwith_no (O:Opq) (l:List PairK) (defs:List Nd) (hdef:(∀ x∈defs,NdS x)∧defs.length≤4) (k:ByteArray) (d:Doc) (hd:d.length≤1099511627776) (hs:∀ f∈d,f.path.size≤9223372036854775807) (hb:eallB d defs=false) :
  Fn prog 37 [.ref 0,.sl false 0 false 4 (O.o Nds.enc defs),.str k,.sl false 0 false 6 (O.o Doc.enc d)] [.arr 0 none 2 (O.o Prs.enc l)] [.ref 0] [.arr 0 none 2 (O.o Prs.enc l)]:=by
 have k1:=revalall_fn O d hd hs (l:=defs) (by omega) hdef.1
 rw[O.h (eallL d),O.h (eallB d),hb] at k1
 obtain⟨V,eV⟩:∃ V,V=eallL d defs:=⟨_,rfl⟩
 rw[← eV] at k1
 clear hb hdef eV
 refine go (fn:=Proofs.Tryz.f37) (n:=28) (rv:=[ResultVar.tmp 8]) rfl (by decide) rfl (by decide +kernel) rfl rfl (by simp) fun F L C=>?_
 cbv
 (repeat' first|(refine CallThen.mk _ _ (C.fn (k1)) ?_;cbv)|(refine R0 ?_;cbv))
 all_goals first
  | exact⟨.refl _,trivial⟩
  | (clear k1;lia)
  | trace_state
theorem rwith_yes (O:Opq) (l:List PairK) (hl:l.length≤1000000) (defs:List Nd) (hdef:(∀ x∈defs,NdS x)∧defs.length≤4) (k:ByteArray) (d:Doc) (hd:d.length≤1099511627776) (hs:∀ f∈d,f.path.size≤9223372036854775807) (hb:eallB d defs=true) :
  Fn prog 37 [.ref 0,.sl false 0 false 4 (O.o Nds.enc defs),.str k,.sl false 0 false 6 (O.o Doc.enc d)] [.arr 0 none 2 (O.o Prs.enc l)] [.ref 1] [.arr 0 none 2 (O.o Prs.enc l),.arr 0 none 2 (O.o Prs.enc (putP l (entP defs k d)))]:=by
 have k1:=revalall_fn O d hd hs (l:=defs) (by omega) hdef.1
 have hk:=eallL_ok d defs
 have k2:=rkKey2_fn O (eallL d defs) hk.1 (by omega)
 have k3:=rput_fn O l (entP defs k d) hl
 rw[O.h (eallL d),O.h (eallB d),hb] at k1
 rw[O.h keyB] at k2
 have hS:O.o ofL (keyB (eallL d defs))=ofL (keyB (eallL d defs)):=by rw[O.h]
 unfold entP at k3 ⊢
 obtain⟨S,eS⟩:∃ S,S=ofL (keyB (eallL d defs)):=⟨_,rfl⟩
 rw[hS,← eS] at k2
 rw[← eS] at k3 ⊢
 obtain⟨V,eV⟩:∃ V,V=eallL d defs:=⟨_,rfl⟩
 rw[← eV] at k1 k2
 obtain⟨R,eR⟩:∃ R,R=O.o Prs.enc (putP l ⟨S,k⟩):=⟨_,rfl⟩
 rw[← eR] at k3 ⊢
 clear hS eS eV hk hb hdef eR
 refine go (fn:=Proofs.Tryz.f37) (n:=28) (rv:=[ResultVar.tmp 8]) rfl (by decide) rfl (by decide +kernel) rfl rfl (by simp) fun F L C=>?_
 cbv
 (repeat' first|(refine CallThen.mk _ _ (C.fn (k1)) ?_;cbv)|(refine CallThen.mk _ _ (C.fn (k2)) ?_;cbv)|(refine CallThen.mk _ _ (C.fn (k3)) ?_;cbv)|(refine RetThen.mk [(1,.loc 2112)] [] ?_;cbv))
 all_goals first
  | exact⟨.refl _,.refl _,trivial⟩
  | (clear k1 k2 k3;lia)
  | trace_state
theorem rbuild_err1 (O:Opq) (S:List UInt8) (hS:S.length≤1000000000) (docs:List Ndoc) (h:allE S≠0) :
  Fn prog 12 [.str (O.o ofL S),.sl false 0 false 2 (O.o (Nms.enc O) docs)] [] [.nils,.int .i64 (allE S)] []:=by
 have k1:=reall_fn O S hS
 rw[O.h allE] at k1
 obtain⟨V,eV⟩:∃ V,V=O.o Nds.enc (O.o allV S):=⟨_,rfl⟩
 rw[← eV] at k1
 obtain⟨E,eE⟩:∃ V,V=allE S:=⟨_,rfl⟩
 rw[← eE] at k1 h ⊢
 clear eV eE
 refine go (fn:=Proofs.Tryz.f12) (n:=40) (rv:=[ResultVar.tmp 4,ResultVar.tmp 5]) rfl (by decide) rfl (by decide +kernel) rfl rfl (by simp) fun F L C=>?_
 cbv
 (repeat' first|(refine CallThen.mk _ _ (C.fn (k1)) ?_;cbv)|(refine Br.f ?_ ?_;(focus first|assumption|lia);cbv)|(refine R0 ?_;cbv))
 all_goals first
  | exact⟨rfl,trivial⟩
  | exact⟨rfl,rfl,trivial⟩
  | (clear k1;lia)
  | trace_state
theorem rbuild_err2 (O:Opq) (S:List UInt8) (hS:S.length≤1000000000) (docs:List Ndoc) (hl:docs.length≤1099511627776) (hd:∀ n∈docs,n.doc.length≤1099511627776∧∀ f∈n.doc,f.path.size≤9223372036854775807) (h:allE S=0) (h2:docsOk docs≠true) :
  Fn prog 12 [.str (O.o ofL S),.sl false 0 false 2 (O.o (Nms.enc O) docs)] [] [.nils,.int .i64 1] []:=by
 have k1:=reall_fn O S hS
 have k2:=r11docs_fn O docs hl hd
 rw[O.h docsOk,Bool.eq_false_iff.2 h2] at k2
 rw[O.h allE,h] at k1
 obtain⟨V,eV⟩:∃ V,V=O.o Nds.enc (O.o allV S):=⟨_,rfl⟩
 rw[← eV] at k1
 clear eV h h2
 refine go (fn:=Proofs.Tryz.f12) (n:=40) (rv:=[ResultVar.tmp 4,ResultVar.tmp 5]) rfl (by decide) rfl (by decide +kernel) rfl rfl (by simp) fun F L C=>?_
 cbv
 (repeat' first|(refine CallThen.mk _ _ (C.fn (k1)) ?_;cbv)|(refine CallThen.bool (C.fn (k2)) (fun _=>?_) (fun _=>?_)<;>cbv)|(refine Br.t ?_ ?_;(focus first|assumption|lia);cbv)|(refine R0 ?_;cbv))
 all_goals first
  | exact⟨rfl,trivial⟩
  | exact⟨rfl,rfl,trivial⟩
  | (clear k1 k2;lia)
  | (exfalso;contradiction)
  | trace_state
set_option maxHeartbeats 4000000 in
theorem rbuild_ok (O:Opq) (S:List UInt8) (hS:S.length≤1000000000) (docs:List Ndoc) (hl:docs.length≤255) (hd:∀ n∈docs,n.doc.length≤1099511627776∧∀ f∈n.doc,f.path.size≤9223372036854775807) (h:allE S=0) (h2:docsOk docs=true) :
  Fn prog 12 [.str (O.o ofL S),.sl false 0 false 2 (O.o (Nms.enc O) docs)] [] [.sl false 0 false 2 (O.o Prs.enc (refBuild (allV S) docs)),.int .i64 0] []:=by
 have k1:=reall_fn O S hS
 have k2:=r11docs_fn O docs (by omega) hd
 rw[O.h docsOk,h2] at k2
 rw[O.h allE,h] at k1
 have hdef:=allV_small S
 rw[O.h allV] at k1
 obtain⟨D,eD⟩:∃ D,D=allV S:=⟨_,rfl⟩
 rw[← eD] at k1 hdef ⊢
 clear eD
 have hE2:=fun k x (h:docs[k]?=some x)=>refBuild_snoc (defs:=D) h
 have hEl:∀ k,(refBuild D (docs.take k)).length≤docs.length:=fun k=>by
  unfold refBuild
  rw[refBuild_fold]
  have:∀ (ps acc:List PairK),(ps.foldl putP acc).length=ps.length+acc.length:=fun ps=>by
   induction ps with
   | nil=>intro acc;simp
   | cons p ps ih=>intro acc;rw[List.foldl_cons,ih,(putP_perm acc p).length_eq,List.length_cons,List.length_cons];omega
  rw[this]
  have:=entsL_len D (docs.take k)
  rw[List.length_take] at this
  simp only [List.length_nil]
  omega
 have hEe:refBuild D (docs.take docs.length)=refBuild D docs:=by rw[List.take_length]
 obtain⟨E,hE⟩:∃ E:Nat→List PairK,E=fun k=>refBuild D (docs.take k):=⟨_,rfl⟩
 have hE0:O.o Prs.enc (E 0)=[]:=by rw[hE];simp only [O.h];rfl
 have hEl:∀ k,(E k).length≤docs.length:=fun k=>by rw[hE];exact hEl k
 have hEe:O.o Prs.enc (E docs.length)=O.o Prs.enc (refBuild D docs):=by rw[hE];simp only [hEe]
 have hyes:∀ k x,docs[k]?=some x→eallB x.doc D=true→putP (E k) (entP D x.key x.doc)=E (k+1):=fun k x h hb=>by
  have:=hE2 k x h
  unfold withP at this
  rw[if_pos hb] at this
  rw[hE];exact this.symm
 have hno:∀ k x,docs[k]?=some x→eallB x.doc D=false→E k=E (k+1):=fun k x h hb=>by
  have:=hE2 k x h
  unfold withP at this
  rw[if_neg (by rw[hb];simp)] at this
  rw[hE];exact this.symm
 obtain⟨RR,hRR⟩:∃ R,R=O.o Prs.enc (refBuild D docs):=⟨_,rfl⟩
 rw[← hRR] at hEe ⊢
 clear hE2 hE hRR h h2
 have hnl:=Nms.len O docs
 obtain⟨z,hz⟩:∃ z:Nat,z=0:=⟨_,rfl⟩
 rw[← hz] at hE0
 obtain⟨NN,hNN⟩:∃ N:Nat,N=docs.length:=⟨_,rfl⟩
 obtain⟨VD,hVD⟩:∃ V,V=O.o Nds.enc D:=⟨_,rfl⟩
 have hw1:=fun l k d h1 h2 h3=>rwith_no O l D hdef k d h1 h2 h3
 have hw2:=fun l h0 k d h1 h2 h3=>rwith_yes O l h0 D hdef k d h1 h2 h3
 rw[← hVD] at k1 hw1 hw2
 clear hVD hdef
 refine goM (modeOf 37 [.own]) (fn:=Proofs.Tryz.f12) (n:=40) (rv:=[ResultVar.tmp 4,ResultVar.tmp 5]) rfl (by decide) rfl (by decide +kernel) rfl rfl (by simp) fun F L C=>?_
 cbv
 (repeat' first|(refine CallThen.mk _ _ (C.fn (k1)) ?_;cbv)|(refine CallThen.bool (C.fn (k2)) (fun _=>?_) (fun _=>?_)<;>cbv)|(refine Br.t ?_ ?_;(focus first|assumption|lia);cbv)|(refine R0 ?_;cbv))
 all_goals try(exfalso;contradiction)
 all_goals try(clear k1 k2 hw1 hw2 hyes hno hE0 hEl hd hEe;lia)
 refine LoopThen.mk (C.loopAt (ι:=Nat) [(8,41)] (fun k=>[(8,.ref 50),(9,.int .i64 k)]) (fun k=>[(50,.arr 0 none 2 (O.o Prs.enc (E k)))])
  (fun k=>k≤NN) (fun k=>NN-k) (by decide +kernel) (Start.mk z [(50,.loc 1472)] [] (show z≤NN by omega) ?_) ?_)
 ·cbv
  (repeat' apply And.intro)<;>first|exact True.intro|exact WkR.refl _|exact hE0|exact WkR.of_eq hE0|rfl|(clear k1 k2 hw1 hw2 hyes hno hE0 hEl hd hEe;lia)|trace_state
 clear hE0 hz k1 k2
 intro k g
 cbv
 replace g:k≤NN:=g
 by_cases hk:k<docs.length
 ·obtain⟨x,hx⟩:∃ x,docs[k]?=some x:=⟨docs[k],by simp [hk]⟩
  have hdx:=hd x (List.mem_of_getElem? hx)
  cases hb:eallB x.doc D
  ·have kw:=hw1 (E k) x.key x.doc hdx.1 hdx.2 hb
   have hno:=hno k x hx hb
   rw[hno] at kw ⊢
   obtain⟨X,hX⟩:∃ X,X=E (k+1):=⟨_,rfl⟩
   rw[← hX] at kw ⊢
   clear hw1 hw2 hyes hEl hd hEe hdx hb hno
   obtain⟨xa,xb⟩:=x
   (repeat' first|(refine Na ?_ fun _ _=>?_;(focus lia);cbv)|(refine Ex.known O (Ndoc.enc O) rfl hx ?_ ?_;(focus lia);cbv)|(refine CallThen.mk _ _ (C.fn (kw)) ?_;cbv)|(refine Back.to (k+1) [] [] ?_ fun _ _=>?_;rotate_left;cbv)|(refine Nm fun _ _=>?_;cbv)|(refine Br.t ?_ ?_;(focus first|assumption|lia);cbv))
   all_goals first
    | exact⟨by omega,by dsimp only;omega⟩
    | (rename_i y hy;subst hy;(repeat' apply And.intro)<;>first|exact True.intro|exact WkR.refl _|(rw[hX];exact WkR.refl _)|rfl|(clear kw hx hX;lia))
    | (clear kw hx hX;lia)
    | trace_state
  ·have kw:=hw2 (E k) (Nat.le_trans (hEl k) (by omega)) x.key x.doc hdx.1 hdx.2 hb
   have hyes:=hyes k x hx hb
   rw[hyes] at kw
   obtain⟨X,hX⟩:∃ X,X=E (k+1):=⟨_,rfl⟩
   rw[← hX] at kw
   clear hw1 hw2 hno hEl hd hEe hdx hb hyes
   obtain⟨xa,xb⟩:=x
   (repeat' first|(refine Na ?_ fun _ _=>?_;(focus lia);cbv)|(refine Ex.known O (Ndoc.enc O) rfl hx ?_ ?_;(focus lia);cbv)|(refine CallThen.mk _ _ (C.fn (kw)) ?_;cbv)|(refine Back.to (k+1) [(50,.loc 2688)] [] ?_ fun _ _=>?_;rotate_left;cbv)|(refine Nm fun _ _=>?_;cbv)|(refine Br.t ?_ ?_;(focus first|assumption|lia);cbv))
   all_goals first
    | exact⟨by omega,by dsimp only;omega⟩
    | (rename_i y hy;subst hy;(repeat' apply And.intro)<;>first|exact True.intro|exact WkR.refl _|(rw[hX];exact WkR.refl _)|rfl|(clear kw hx hX;lia))
    | (clear kw hx hX;lia)
    | trace_state
 ·have hkn:k=docs.length:=by omega
  rw[← hkn] at hEe
  obtain⟨X,hX⟩:∃ X,X=O.o Prs.enc (E k):=⟨_,rfl⟩
  clear hw1 hw2 hyes hno hEl hd
  (repeat' first|(refine RetThen.mk [] [50] ?_;cbv)|(refine Nl fun _ _ hq=>?_;(try simp only [lenS] at hq);cbv)|(refine Nm fun _ _=>?_;cbv)|(refine Br.f ?_ ?_;(focus first|assumption|lia);cbv))
  all_goals first
   | (rename_i R eR;rw[← hEe];subst eR;exact⟨.refl _,trivial⟩)
   | (clear hX;lia)
   | trace_state
end Go.Sym
