/- The law IndexFinds. -/
import Derived.Test.YtjlefaabcalkkaaGreatDoorK30
set_option linter.all false
set_option linter.unusedVariables false
set_option linter.unusedSimpArgs false
namespace Go.Sym
open Go Go.Proofs.Tryz
set_option maxRecDepth 100000
theorem findK_full {f t:ByteArray} {m:Int} {l:List PairK} {k:Nat} (h:m≤(findK f t m l k).length):findP f t m l=findK f t m l k:=by
 have step:∀ n,findK f t m l (k+n)=findK f t m l k:=fun n=>by
  induction n with
  | zero=>rfl
  | succ n ih =>
   cases hx:l[k+n]? with
   | none =>
    have:=List.getElem?_eq_none_iff.1 hx
    rw[findK_end (by omega),← findK_end (n:=k+n) this,ih]
   | some x =>
    rw[show k+(n+1)=k+n+1 by omega,findK_step hx,stepF,if_neg (by rw[ih];omega),ih]
 rw[← step l.length,findK_end (by omega)]
theorem ifind_bad (O:Opq) (l:List PairK) (f t:ByteArray) (m:Int) (hl:l.length≤9223372036854775807) (hb:¬ mayP l∨m<0):Fn prog 16 [.sl false 0 false 2 (O.o Prs.enc l),.str f,.str t,.int .i64 m] [] [.nils,.int .i64 1] []:=by
 have kc:=icheck_fn0 O l hl
 rw[O.h mayPE,mayPE] at kc
 by_cases h:mayP l
 ·rw[if_pos (mayPb_iff.2 h)] at kc
  have hm:m<0:=hb.resolve_left fun k=>k h
  clear h hb
  refine go (fn:=Proofs.Tryz.f16) (n:=48) (rv:=[ResultVar.tmp 8,ResultVar.tmp 9]) rfl (by decide) rfl (by decide +kernel) rfl rfl (by simp) fun F L C=>?_
  cbv
  (repeat' first|(refine CallThen.mk _ _ (C.fn (Fn.wkA (kc) ?_)) ?_;(focus((repeat' apply WkAL.cons)<;>first|exact WkAL.nil|exact WkA.refl _|exact WkA.lend rfl|exact WkA.bor rfl (WkR.refl _)|exact WkA.wk (Wk.nil _ _)|exact WkA.wk (Wk.sl' rfl rfl (WkR.refl _))|(refine WkA.agg' ?_;((repeat' apply WkAL.cons)<;>first|exact WkAL.nil|exact WkA.refl _|exact WkA.lend rfl|exact WkA.bor rfl (WkR.refl _)|exact WkA.wk (Wk.nil _ _)|exact WkA.wk (Wk.sl' rfl rfl (WkR.refl _))|(refine WkA.agg' ?_;((repeat' apply WkAL.cons)<;>first|exact WkAL.nil|exact WkA.refl _|exact WkA.lend rfl|exact WkA.bor rfl (WkR.refl _)|exact WkA.wk (Wk.nil _ _)|exact WkA.wk (Wk.sl' rfl rfl (WkR.refl _))))))));cbv)|(refine Br.t ?_ ?_;(focus first|assumption|lia);cbv)|(refine R0 ?_;cbv))
  all_goals first
   | exact⟨rfl,trivial⟩
   | (clear kc;lia)
   | trace_state
 ·rw[if_neg (fun k=>h (mayPb_iff.1 k))] at kc
  clear h hb
  refine go (fn:=Proofs.Tryz.f16) (n:=48) (rv:=[ResultVar.tmp 8,ResultVar.tmp 9]) rfl (by decide) rfl (by decide +kernel) rfl rfl (by simp) fun F L C=>?_
  cbv
  (repeat' first|(refine CallThen.mk _ _ (C.fn (Fn.wkA (kc) ?_)) ?_;(focus((repeat' apply WkAL.cons)<;>first|exact WkAL.nil|exact WkA.refl _|exact WkA.lend rfl|exact WkA.bor rfl (WkR.refl _)|exact WkA.wk (Wk.nil _ _)|exact WkA.wk (Wk.sl' rfl rfl (WkR.refl _))|(refine WkA.agg' ?_;((repeat' apply WkAL.cons)<;>first|exact WkAL.nil|exact WkA.refl _|exact WkA.lend rfl|exact WkA.bor rfl (WkR.refl _)|exact WkA.wk (Wk.nil _ _)|exact WkA.wk (Wk.sl' rfl rfl (WkR.refl _))|(refine WkA.agg' ?_;((repeat' apply WkAL.cons)<;>first|exact WkAL.nil|exact WkA.refl _|exact WkA.lend rfl|exact WkA.bor rfl (WkR.refl _)|exact WkA.wk (Wk.nil _ _)|exact WkA.wk (Wk.sl' rfl rfl (WkR.refl _))))))));cbv)|(refine Br.f ?_ ?_;(focus first|assumption|lia);cbv)|(refine R0 ?_;cbv))
  all_goals first
   | exact⟨rfl,trivial⟩
   | (clear kc;lia)
   | trace_state
set_option maxHeartbeats 4000000 in
theorem rfind_fn (O:Opq) (l:List PairK) (f t:ByteArray) (m:Int) (hl:l.length≤1000000) (hm:0≤m):Fn prog 18 [.sl false 0 false 2 (O.o Prs.enc l),.str f,.str t,.int .i64 m] [] [.sl false 0 false 2 (O.o Prs.enc (O.o (findP f t m) l))] []:=by
 have hlen:=Prs.len O l
 rw[O.h (findP f t m)]
 have hstep:=fun k x (h:l[k]?=some x)=>findK_step (f:=f) (t:=t) (m:=m) h
 have hlk:=findK_len f t m l
 have hfull:=fun k (h:m≤(findK f t m l k).length)=>findK_full h
 have hend:=findK_end (f:=f) (t:=t) (m:=m) (l:=l) (n:=l.length) (Nat.le_refl _)
 obtain⟨E,hE⟩:∃ E:Nat→List PairK,E=findK f t m l:=⟨_,rfl⟩
 obtain⟨FP,hFP⟩:∃ P,P=findP f t m l:=⟨_,rfl⟩
 rw[← hE] at hlk hend
 rw[← hFP] at hend ⊢
 have hstep:∀ k x,l[k]?=some x→E (k+1)=stepF f t m (E k) x:=fun k x h=>by rw[hE];exact hstep k x h
 have hfull:∀ k,m≤(E k).length→FP=E k:=fun k h=>by rw[hE] at h ⊢;rw[hFP];exact hfull k h
 have hE0:O.o Prs.enc (E 0)=[]:=by rw[hE,findK_zero];simp only [O.h];rfl
 clear hE hFP
 obtain⟨z,hz⟩:∃ z:Nat,z=0:=⟨_,rfl⟩
 rw[← hz] at hE0
 obtain⟨N,hN⟩:∃ N:Nat,N=l.length:=⟨_,rfl⟩
 refine go (fn:=Proofs.Tryz.f18) (n:=48) (rv:=[ResultVar.tmp 8]) rfl (by decide) rfl (by decide +kernel) rfl rfl (by simp) fun F L C=>?_
 cbv
 skip
 refine LoopThen.mk (C.loopAt (ι:=Nat) [(9,51)] (fun k=>[(9,.ref 50),(10,.int .i64 k)]) (fun k=>[(50,.arr 0 none 2 (O.o Prs.enc (E k)))]) (fun k=>k≤N) (fun k=>N-k) (by decide +kernel) (Start.mk z [(50,.loc 832)] [] (show z≤N by omega) ?_) ?_)
 ·cbv
  (repeat' apply And.intro)<;>first|exact True.intro|exact WkR.refl _|rfl|exact hE0|exact WkR.of_eq hE0|(clear hE0 hstep hlk hfull;lia)|trace_state
 clear hE0 hz
 intro k g
 cbv
 replace g:k≤N:=g
 have hA:=Prs.len O (E k)
 have hle:=hlk k
 by_cases hc:k<l.length∧((E k).length:Int)<m
 ·obtain⟨hk,hmm⟩:=hc
  obtain⟨x,hx⟩:∃ x,l[k]?=some x:=⟨l[k],by simp [hk]⟩
  have hs:=hstep k x hx
  have happ:=(Prs.enc:List PairK→List (List PV)) 
  have happ:O.o Prs.enc (E k)++[x.enc]=O.o Prs.enc (E k++[x]):=by simp only [O.h,Prs.enc,List.map_append,List.map_cons,List.map_nil]
  have hyes:¬ slt x.key f∧(t=ByteArray.empty∨slt x.key t)→O.o Prs.enc (E k)++[x.enc]=O.o Prs.enc (E (k+1)):=fun h=>by rw[hs,stepF,if_pos ⟨h.1,h.2,hmm⟩];exact happ
  have hno:¬ (¬ slt x.key f∧(t=ByteArray.empty∨slt x.key t))→O.o Prs.enc (E k)=O.o Prs.enc (E (k+1)):=fun h=>by rw[hs,stepF,if_neg fun q=>h ⟨q.1,q.2.1⟩]
  obtain⟨X,hX⟩:∃ X,X=O.o Prs.enc (E (k+1)):=⟨_,rfl⟩
  rw[← hX] at hyes hno
  clear hs happ hstep hfull hlk hend
  obtain⟨xa,xb⟩:=x
  dsimp only at hyes hno
  have hyes':¬ slt xa f→t=ByteArray.empty∨slt xa t→O.o Prs.enc (E k)++[[.str xa,.str xb]]=X:=fun h1 h2=>hyes ⟨h1,h2⟩
  clear hyes
  (repeat' first|(refine Named.val X (hyes' (by assumption) (by first|exact .inl (by assumption)|exact .inr (by assumption))) ?_;cbv)|(refine Na ?_ fun _ _=>?_;(focus lia);cbv)|(refine Ex.pair O hx ?_ ?_;(focus(clear hyes' hno hX;lia));cbv)|(refine Back.up [(50,.loc 3328)] [] ?_ ?_ fun _ _=>?_;rotate_left 2;cbv;refine And.intro ?_ ?_)|(refine Back.up [] [] ?_ ?_ fun _ _=>?_;rotate_left 2;cbv;refine And.intro ?_ ?_)|(refine Nm fun _ _=>?_;cbv)|(refine Br.t ?_ ?_;(focus first|assumption|lia);cbv)|(refine Br.mk (fun _=>?_) (fun _=>?_)<;>cbv)|(refine Need.mk ?_ ?_;rotate_left;cbv))
  all_goals first
   | ((repeat' apply And.intro)<;>first
     | exact True.intro
     | exact WkR.refl _
     | (rename_i k' hk';subst hk';exact WkR.of_eq hX)
     | (rename_i k' hk';subst hk';exact WkR.of_eq hX.symm)
     | (rename_i k' hk';subst hk';show WkR (O.o Prs.enc (E (k+1))) (O.o Prs.enc (E k));rw[← hX,hno (by rintro ⟨h1,h2⟩;first|contradiction|(rcases h2 with h2|h2<;>contradiction))];exact WkR.refl _)
     | (clear hx hX hyes' hno;lia))
   | ((try simp only [List.length_cons,List.length_nil]);clear hx hX hyes' hno;lia)
   | (exfalso;clear hx hX hyes' hno;lia)
   | trace_state
 ·have hF:FP=E k:=by
   by_cases hk:k<l.length
   ·exact hfull k (by clear hstep hfull hlk hend;lia)
   ·rw[← hend,show l.length=k by omega]
  subst hF
  clear hstep hfull hlk hend
  by_cases hk:k<l.length
  ·have hmm:m≤(E k).length:=by lia
   clear hc
   (repeat' first|(refine RetThen.mk [] [50] ?_;cbv)|(refine Nl fun _ _ hq=>?_;(try simp only [lenS] at hq);cbv)|(refine Nm fun _ _=>?_;cbv)|(refine Br.t ?_ ?_;(focus first|assumption|lia);cbv)|(refine Br.f ?_ ?_;(focus first|assumption|lia);cbv))
   all_goals first
    | (rename_i R eR;subst eR;exact⟨.refl _,trivial⟩)
    | exact⟨.refl _,trivial⟩
    | (exfalso;lia)
    | lia
    | trace_state
  ·clear hc
   (repeat' first|(refine RetThen.mk [] [50] ?_;cbv)|(refine Nl fun _ _ hq=>?_;(try simp only [lenS] at hq);cbv)|(refine Nm fun _ _=>?_;cbv)|(refine Br.f ?_ ?_;(focus first|assumption|lia);cbv))
   all_goals first
    | (rename_i R eR;subst eR;exact⟨.refl _,trivial⟩)
    | exact⟨.refl _,trivial⟩
    | (exfalso;lia)
    | lia
    | trace_state
theorem indexFinds_fn (O:Opq) (l:List PairK) (k0 k1:ByteArray) (m:Int) (hl:l.length≤9223372036854775807):Fn prog 4 [.sl false 0 false 2 (O.o Prs.enc l),.agg [.str k0,.str k1],.int .i64 m] [] [.bool true] []:=by
 have kw:=awake11_fn O
 have hlen:=Prs.len O l
 by_cases hbig:300<l.length
 ·refine go (fn:=Proofs.Tryz.f4) (n:=53) (rv:=[ResultVar.tmp 6]) rfl (by decide) rfl (by decide +kernel) rfl rfl (by simp) fun F L C=>?_
  cbv
  (repeat' first|(refine CallThen.mk _ _ (C.fn (kw)) ?_;cbv)|(refine Nm fun _ _=>?_;cbv)|(refine Br.t ?_ ?_;(focus first|assumption|lia);cbv)|(refine R0 ?_;cbv))
  all_goals first
   | exact⟨rfl,trivial⟩
   | (clear kw;lia)
   | trace_state
 have km:=rmayP_fn O l hl
 rw[O.h mayPb] at km
 by_cases hb:¬ mayP l∨m<0
 ·have kf:=ifind_bad O l k0 k1 m hl hb
  have hq:mayPb l=true→m<0:=fun h=>hb.resolve_left fun k=>k (mayPb_iff.1 h)
  obtain⟨B,eB⟩:∃ B,B=mayPb l:=⟨_,rfl⟩
  rw[← eB] at km hq
  clear eB hb
  cases B
  ·clear hq
   refine go (fn:=Proofs.Tryz.f4) (n:=53) (rv:=[ResultVar.tmp 6]) rfl (by decide) rfl (by decide +kernel) rfl rfl (by simp) fun F L C=>?_
   cbv
   (repeat' first|(refine CallThen.mk _ _ (C.fn (kw)) ?_;cbv)|(refine CallThen.mk _ _ (C.fn (kf)) ?_;cbv)|(refine CallThen.mk _ _ (C.fn (km)) ?_;cbv)|(refine Nm fun _ _=>?_;cbv)|(refine Br.t ?_ ?_;(focus first|assumption|lia);cbv)|(refine Br.f ?_ ?_;(focus first|assumption|lia);cbv)|(refine Need.mk ?_ ?_;rotate_left;cbv)|(refine R0 ?_;cbv))
   all_goals first
    | exact⟨rfl,trivial⟩
    | (clear kw kf km;lia)
    | trace_state
  ·have hq:=hq rfl
   refine go (fn:=Proofs.Tryz.f4) (n:=53) (rv:=[ResultVar.tmp 6]) rfl (by decide) rfl (by decide +kernel) rfl rfl (by simp) fun F L C=>?_
   cbv
   (repeat' first|(refine CallThen.mk _ _ (C.fn (kw)) ?_;cbv)|(refine CallThen.mk _ _ (C.fn (kf)) ?_;cbv)|(refine CallThen.mk _ _ (C.fn (km)) ?_;cbv)|(refine Nm fun _ _=>?_;cbv)|(refine Br.t ?_ ?_;(focus first|assumption|lia);cbv)|(refine Br.f ?_ ?_;(focus first|assumption|lia);cbv)|(refine Need.mk ?_ ?_;rotate_left;cbv)|(refine R0 ?_;cbv))
   all_goals first
    | exact⟨rfl,trivial⟩
    | (clear kw kf km;lia)
    | trace_state
 ·have hok:mayP l:=Classical.byContradiction fun h=>hb (.inl h)
  have hm:0≤m:=by omega
  have kf:=ifind_fn O l k0 k1 m (by omega) hm hok
  have kr:=rfind_fn O l k0 k1 m (by omega) hm
  have hfl:(findP k0 k1 m l).length≤l.length:=by rw[← findK_end (n:=l.length) (Nat.le_refl _)];exact findK_len k0 k1 m l l.length
  rw[O.h (findP k0 k1 m)] at kf kr
  have ks:=rpairs_fn O (findP k0 k1 m l) (findP k0 k1 m l) (by omega)
  rw[O.h sameP,show sameP (findP k0 k1 m l) (findP k0 k1 m l)=true by simp [sameP]] at ks
  rw[mayPb_iff.2 hok] at km
  obtain⟨RR,eR⟩:∃ R,R=O.o Prs.enc (findP k0 k1 m l):=⟨_,rfl⟩
  rw[← eR] at kf kr ks
  clear eR hb hok hfl
  refine go (fn:=Proofs.Tryz.f4) (n:=53) (rv:=[ResultVar.tmp 6]) rfl (by decide) rfl (by decide +kernel) rfl rfl (by simp) fun F L C=>?_
  cbv
  (repeat' first|(refine CallThen.mk _ _ (C.fn (kw)) ?_;cbv)|(refine CallThen.mk _ _ (C.fn (kf)) ?_;cbv)|(refine CallThen.mk _ _ (C.fn (km)) ?_;cbv)|(refine CallThen.mk _ _ (C.fn (kr)) ?_;cbv)|(refine CallThen.mk _ _ (C.fn (ks)) ?_;cbv)|(refine Nm fun _ _=>?_;cbv)|(refine Br.t ?_ ?_;(focus first|assumption|lia);cbv)|(refine Br.f ?_ ?_;(focus first|assumption|lia);cbv)|(refine Need.mk ?_ ?_;rotate_left;cbv)|(refine R0 ?_;cbv))
  all_goals first
   | exact⟨rfl,trivial⟩
   | (clear kw kf km kr ks;lia)
   | trace_state
open Go Go.Proofs Go.Proofs.Tryz
theorem cIx0:prog.cellsOf 32=2:=by decide +kernel
theorem cIx1:prog.cellsOf 9=1:=by decide +kernel
theorem shape_two_str {n:Nat} {xs:List PV} (h:shape prog n 32 xs):∃ a m:ByteArray,xs=[.str a,.str m]:=by
 cases n with
 | zero=>exact h.elim
 | succ n =>
  simp only [shape,Tryz.underlying32,cIx0,cIx1] at h
  obtain⟨hl,hs⟩:=h
  match xs,hl with
  | [x,y],_ =>
  obtain⟨a,ea,_⟩:=shape_str (xs:=[x]) (hs 0 (by omega))
  obtain⟨b,eb,_⟩:=shape_str (xs:=[y]) (hs 1 (by omega))
  cases ea;cases eb
  exact⟨a,b,rfl⟩
theorem indexFinds_law {n0:Nat} {x0:PV} {n1:Nat} {x1:List PV} {n2:Int} (s0:shape prog n0 25 [x0]) (s1:shape prog n1 32 x1) (_:(Lit.int .i64 n2).wf=true):Fn prog 4 [x0,.agg x1,.int .i64 n2] [] [.bool true] []:=by
 obtain⟨l,wl,hl,hi⟩:=shape_pairks s0
 obtain⟨a,m,rfl⟩:=shape_two_str s1
 have h:=indexFinds_fn Opq.id l a m n2 hl
 exact h.wkArgs (.cons wl (.refl _))
end Go.Sym
