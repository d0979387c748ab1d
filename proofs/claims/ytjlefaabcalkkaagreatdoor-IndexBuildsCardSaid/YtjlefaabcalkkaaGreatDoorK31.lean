/- The law IndexBuilds. -/
import Derived.Test.YtjlefaabcalkkaaGreatDoorK30
set_option linter.all false
set_option linter.unusedVariables false
set_option linter.unusedSimpArgs false
namespace Go.Sym
open Go Go.Proofs.Tryz
set_option maxRecDepth 100000
def lightI (docs:List Ndoc):Prop:=docs.length≤60∧∀ n∈docs,n.doc.length≤20
theorem light11_fn (O:Opq) (docs:List Ndoc) (hl:docs.length≤9223372036854775807) (hd:∀ n∈docs,n.doc.length≤9223372036854775807) {R:Bool} (hy:lightI docs→R=true) (hn:¬ lightI docs→R=false) :
  Fn prog 9 [.sl false 0 false 2 (O.o (Nms.enc O) docs)] [] [.bool R] []:=by
 have hnl:=Nms.len O docs
 obtain⟨z,hz⟩:∃ z:Nat,z=0:=⟨_,rfl⟩
 obtain⟨N,hN⟩:∃ N:Nat,N=docs.length:=⟨_,rfl⟩
 refine go (fn:=Proofs.Tryz.f9) (n:=23) (rv:=[ResultVar.tmp 2]) rfl (by decide) rfl (by decide +kernel) rfl rfl (by simp) fun F L C=>?_
 cbv
 skip
 refine LoopThen.mk (C.loopAt (ι:=Nat) [(2,20)] (fun k=>[(2,.bool false),(3,.int .i64 k)]) (fun _=>[])
  (fun k=>k≤N∧k≤60∧∀ (j:Nat) x,j<k→docs[j]?=some x→x.doc.length≤20) (fun k=>N-k) (by decide +kernel) (Start.mk z [] [] ⟨by omega,by omega,fun j x h=>by omega⟩ ?_) ?_)
 ·cbv
  (repeat' apply And.intro)<;>first|exact True.intro|exact WkR.refl _|rfl|(clear hy hn hd;lia)|trace_state
 intro k g
 cbv
 have g1:k≤N:=g.1
 have g2:k≤60:=g.2.1
 have g3:=g.2.2
 clear g
 by_cases hk:k<docs.length
 ·by_cases hk6:k<60
  ·obtain⟨x,hx⟩:∃ x,docs[k]?=some x:=⟨docs[k],by simp [hk]⟩
   have hxd:=hd x (List.mem_of_getElem? hx)
   have hbad:20<x.doc.length→R=false:=fun h=>hn fun q=>by have:=q.2 x (List.mem_of_getElem? hx);omega
   have hst:x.doc.length≤20→∀ (j:Nat) y,j<k+1→docs[j]?=some y→y.doc.length≤20:=fun h j y hj hy=>by
    by_cases e:j=k
    ·subst e;rw[hx] at hy;cases hy;exact h
    ·exact g3 j y (by omega) hy
   have hdl:(O.o Doc.enc x.doc).length=x.doc.length:=by rw[O.h,Doc.enc_len]
   clear g3 hy hn hd
   obtain⟨xa,xb⟩:=x
   dsimp only at *
   obtain⟨L,hL⟩:∃ L,L=xb.length:=⟨_,rfl⟩
   rw[← hL] at hbad hst hxd hdl
   (repeat' first|(refine Na ?_ fun _ _=>?_;(focus lia);cbv)|(refine Ex.known O (Ndoc.enc O) rfl hx ?_ ?_;(focus lia);cbv)|(refine Back.up [] [] ?_ ?_ fun _ _=>?_;rotate_left 2;cbv;refine And.intro ?_ ?_)|(refine Nm fun _ _=>?_;cbv)|(refine Br.t ?_ ?_;(focus first|assumption|lia);cbv)|(refine Br.mk (fun _=>?_) (fun _=>?_)<;>cbv)|(refine R0 ?_;cbv))
   all_goals first
    | (have e:=hbad (by clear hst hx hbad;lia);subst e;exact⟨rfl,trivial⟩)
    | exact⟨by omega,by omega,hst (by clear hst hx hbad;lia)⟩
    | ((repeat' apply And.intro)<;>first|exact True.intro|exact WkR.refl _|exact hst (by clear hst hx hbad;lia)|(clear hst hx hbad;lia))
    | (exfalso;clear hst hx hbad;lia)
    | (clear hst hx hbad;lia)
    | trace_state
  ·have hb:R=false:=hn fun q=>by have:=q.1;omega
   subst hb
   clear g3 hy hn hd
   (repeat' first|(refine Nm fun _ _=>?_;cbv)|(refine Br.t ?_ ?_;(focus first|assumption|lia);cbv)|(refine Br.f ?_ ?_;(focus first|assumption|lia);cbv)|(refine R0 ?_;cbv))
   all_goals first
    | exact⟨rfl,trivial⟩
    | lia
    | (exfalso;lia)
    | trace_state
 ·by_cases h6:docs.length≤60
  ·have hb:R=true:=hy ⟨h6,fun n hn'=>by
    obtain⟨j,hj,e⟩:=List.getElem_of_mem hn'
    exact g3 j n (by omega) (by rw[← e];simp [hj])⟩
   subst hb
   clear g3 hy hn hd
   (repeat' first|(refine Nm fun _ _=>?_;cbv)|(refine Br.t ?_ ?_;(focus first|assumption|lia);cbv)|(refine Br.f ?_ ?_;(focus first|assumption|lia);cbv)|(refine R0 ?_;cbv))
   all_goals first
    | exact⟨rfl,trivial⟩
    | lia
    | (exfalso;lia)
    | trace_state
  ·have hb:R=false:=hn fun q=>h6 q.1
   subst hb
   clear g3 hy hn hd
   (repeat' first|(refine Nm fun _ _=>?_;cbv)|(refine Br.t ?_ ?_;(focus first|assumption|lia);cbv))
   all_goals first
    | exact⟨rfl,trivial⟩
    | lia
    | (exfalso;lia)
    | trace_state
theorem sameP_refl (l:List PairK):sameP l l=true:=by simp [sameP]
def pathsS (docs:List Ndoc):Prop:=∀ n∈docs,n.doc.length≤9223372036854775807∧∀ f∈n.doc,f.path.size≤9223372036854775807
theorem indexBuilds_fn (O:Opq) (S:ByteArray) (docs:List Ndoc) (hl:docs.length≤9223372036854775807) (hp:pathsS docs):Fn prog 3 [.str S,.sl false 0 false 2 (O.o (Nms.enc O) docs)] [] [.bool true] []:=by
 have kw:=awake11_fn O
 by_cases hbig:1100<S.size∨¬ lightI docs
 ·by_cases hs:1100<S.size
  ·refine go (fn:=Proofs.Tryz.f3) (n:=47) (rv:=[ResultVar.tmp 4]) rfl (by decide) rfl (by decide +kernel) rfl rfl (by simp) fun F L C=>?_
   cbv
   (repeat' first|(refine CallThen.mk _ _ (C.fn (kw)) ?_;cbv)|(refine Nm fun _ _=>?_;cbv)|(refine Br.t ?_ ?_;(focus first|assumption|lia);cbv)|(refine R0 ?_;cbv))
   all_goals first
    | exact⟨rfl,trivial⟩
    | (clear kw hp;lia)
    | trace_state
  ·have kl:=light11_fn O docs hl (fun n hn=>(hp n hn).1) (R:=false) (fun h=>absurd h (hbig.resolve_left hs)) (fun _=>rfl)
   clear hbig
   refine go (fn:=Proofs.Tryz.f3) (n:=47) (rv:=[ResultVar.tmp 4]) rfl (by decide) rfl (by decide +kernel) rfl rfl (by simp) fun F L C=>?_
   cbv
   (repeat' first|(refine CallThen.bool (C.fn (kl)) (fun _=>?_) (fun _=>?_)<;>cbv)|(refine CallThen.mk _ _ (C.fn (kw)) ?_;cbv)|(refine Nm fun _ _=>?_;cbv)|(refine Br.f ?_ ?_;(focus first|assumption|lia);cbv)|(refine R0 ?_;cbv))
   all_goals first
    | exact⟨rfl,trivial⟩
    | (exfalso;contradiction)
    | (clear kw kl hp;lia)
    | trace_state
 ·have hs:S.size≤1100:=by omega
  have hlt:lightI docs:=Classical.byContradiction fun h=>hbig (.inr h)
  clear hbig
  have kl:=light11_fn O docs hl (fun n hn=>(hp n hn).1) (R:=true) (fun _=>rfl) (fun h=>absurd hlt h)
  have hsl:S.data.toList.length≤1100:=by rw[size_list];exact hs
  have hS:O.o ofL S.data.toList=S:=by rw[O.h];exact ofL_toL S
  have hd1:∀ n∈docs,n.doc.length≤1099511627776:=fun n hn=>by have:=hlt.2 n hn;omega
  have hd2:∀ n∈docs,n.doc.length≤1099511627776∧∀ f∈n.doc,f.path.size≤9223372036854775807:=fun n hn=>⟨hd1 n hn,(hp n hn).2⟩
  have h6:=hlt.1
  have kd:=idocs_fn O docs (by omega) hd1
  have kq:=r11docs_fn O docs (by omega) hd2
  rw[O.h docsErr] at kd
  rw[O.h docsOk] at kq
  have ks0:=rpairs_fn O [] [] (by simp)
  rw[O.h sameP,sameP_refl,show O.o Prs.enc []=[] by rw[O.h];rfl] at ks0
  by_cases he:allE S.data.toList≠0
  ·have k1:=ibuild_err1 O S.data.toList (by omega) docs he
   have k2:=rbuild_err1 O S.data.toList (by omega) docs he
   rw[hS] at k1 k2
   obtain⟨E,eE⟩:∃ E,E=allE S.data.toList:=⟨_,rfl⟩
   rw[← eE] at k1 k2 he
   have hdq:docsErr docs=0 ↔ docsOk docs=true:=docsErr_zero
   obtain⟨DE,eDE⟩:∃ E,E=docsErr docs:=⟨_,rfl⟩
   obtain⟨DO,eDO⟩:∃ E,E=docsOk docs:=⟨_,rfl⟩
   rw[← eDE] at kd hdq
   rw[← eDO] at kq hdq
   clear eE eDE eDO hlt hd1 hd2 hp hS
   cases DO
   ·have hdq:¬ DE=0:=fun h=>by have:=hdq.1 h;cases this
    refine go (fn:=Proofs.Tryz.f3) (n:=47) (rv:=[ResultVar.tmp 4]) rfl (by decide) rfl (by decide +kernel) rfl rfl (by simp) fun F L C=>?_
    cbv
    (repeat' first|(refine CallThen.bool (C.fn (kl)) (fun _=>?_) (fun _=>?_)<;>cbv)|(refine CallThen.mk _ _ (C.fn (kw)) ?_;cbv)|(refine CallThen.mk _ _ (C.fn (k1)) ?_;cbv)|(refine CallThen.mk _ _ (C.fn (k2)) ?_;cbv)|(refine CallThen.mk _ _ (C.fn (Fn.wkA (ks0) ?_)) ?_;(focus((repeat' apply WkAL.cons)<;>first|exact WkAL.nil|exact WkA.refl _|exact WkA.lend rfl|exact WkA.bor rfl (WkR.refl _)|exact WkA.wk (Wk.nil _ _)|exact WkA.wk (Wk.sl' rfl rfl (WkR.refl _))|(refine WkA.agg' ?_;((repeat' apply WkAL.cons)<;>first|exact WkAL.nil|exact WkA.refl _|exact WkA.lend rfl|exact WkA.bor rfl (WkR.refl _)|exact WkA.wk (Wk.nil _ _)|exact WkA.wk (Wk.sl' rfl rfl (WkR.refl _))|(refine WkA.agg' ?_;((repeat' apply WkAL.cons)<;>first|exact WkAL.nil|exact WkA.refl _|exact WkA.lend rfl|exact WkA.bor rfl (WkR.refl _)|exact WkA.wk (Wk.nil _ _)|exact WkA.wk (Wk.sl' rfl rfl (WkR.refl _))))))));cbv)|(refine CallThen.mk _ _ (C.fn (kd)) ?_;cbv)|(refine CallThen.mk _ _ (C.fn (kq)) ?_;cbv)|(refine Nm fun _ _=>?_;cbv)|(refine Br.t ?_ ?_;(focus first|assumption|lia);cbv)|(refine Br.f ?_ ?_;(focus first|assumption|lia);cbv)|(refine R0 ?_;cbv))
    all_goals first
     | exact⟨rfl,trivial⟩
     | (exfalso;contradiction)
     | (clear kw kl k1 k2 ks0 kd kq;lia)
     | trace_state
   ·have hdq:DE=0:=hdq.2 rfl
    refine go (fn:=Proofs.Tryz.f3) (n:=47) (rv:=[ResultVar.tmp 4]) rfl (by decide) rfl (by decide +kernel) rfl rfl (by simp) fun F L C=>?_
    cbv
    (repeat' first|(refine CallThen.bool (C.fn (kl)) (fun _=>?_) (fun _=>?_)<;>cbv)|(refine CallThen.mk _ _ (C.fn (kw)) ?_;cbv)|(refine CallThen.mk _ _ (C.fn (k1)) ?_;cbv)|(refine CallThen.mk _ _ (C.fn (k2)) ?_;cbv)|(refine CallThen.mk _ _ (C.fn (Fn.wkA (ks0) ?_)) ?_;(focus((repeat' apply WkAL.cons)<;>first|exact WkAL.nil|exact WkA.refl _|exact WkA.lend rfl|exact WkA.bor rfl (WkR.refl _)|exact WkA.wk (Wk.nil _ _)|exact WkA.wk (Wk.sl' rfl rfl (WkR.refl _))|(refine WkA.agg' ?_;((repeat' apply WkAL.cons)<;>first|exact WkAL.nil|exact WkA.refl _|exact WkA.lend rfl|exact WkA.bor rfl (WkR.refl _)|exact WkA.wk (Wk.nil _ _)|exact WkA.wk (Wk.sl' rfl rfl (WkR.refl _))|(refine WkA.agg' ?_;((repeat' apply WkAL.cons)<;>first|exact WkAL.nil|exact WkA.refl _|exact WkA.lend rfl|exact WkA.bor rfl (WkR.refl _)|exact WkA.wk (Wk.nil _ _)|exact WkA.wk (Wk.sl' rfl rfl (WkR.refl _))))))));cbv)|(refine CallThen.mk _ _ (C.fn (kd)) ?_;cbv)|(refine CallThen.mk _ _ (C.fn (kq)) ?_;cbv)|(refine Nm fun _ _=>?_;cbv)|(refine Br.t ?_ ?_;(focus first|assumption|lia);cbv)|(refine Br.f ?_ ?_;(focus first|assumption|lia);cbv)|(refine R0 ?_;cbv))
    all_goals first
     | exact⟨rfl,trivial⟩
     | (exfalso;contradiction)
     | (clear kw kl k1 k2 ks0 kd kq;lia)
     | trace_state
  ·have he:allE S.data.toList=0:=Classical.not_not.1 he
   by_cases hok:docsOk docs=true
   ·have k1:=ibuild_ok O S.data.toList (by omega) docs (by omega) hd1 he hok
    have k2:=rbuild_ok O S.data.toList (by omega) docs (by omega) hd2 he hok
    rw[refBuild_eq _ hok] at k2
    rw[hS] at k1 k2
    have ks:=rpairs_fn O (idxSort (entsL (allV S.data.toList) docs)) (idxSort (entsL (allV S.data.toList) docs)) (by
     have h1:=(idxSort_perm (entsL (allV S.data.toList) docs)).length_eq
     have h2:=entsL_len (allV S.data.toList) docs
     omega)
    rw[O.h sameP,sameP_refl] at ks
    obtain⟨RR,eR⟩:∃ R,R=O.o Prs.enc (idxSort (entsL (allV S.data.toList) docs)):=⟨_,rfl⟩
    rw[← eR] at k1 k2 ks
    rw[docsErr,if_pos hok] at kd
    rw[hok] at kq
    clear eR hlt hd1 hd2 hp hS he hok ks0
    refine go (fn:=Proofs.Tryz.f3) (n:=47) (rv:=[ResultVar.tmp 4]) rfl (by decide) rfl (by decide +kernel) rfl rfl (by simp) fun F L C=>?_
    cbv
    (repeat' first|(refine CallThen.bool (C.fn (kl)) (fun _=>?_) (fun _=>?_)<;>cbv)|(refine CallThen.mk _ _ (C.fn (kw)) ?_;cbv)|(refine CallThen.mk _ _ (C.fn (k1)) ?_;cbv)|(refine CallThen.mk _ _ (C.fn (k2)) ?_;cbv)|(refine CallThen.mk _ _ (C.fn (ks)) ?_;cbv)|(refine CallThen.mk _ _ (C.fn (kd)) ?_;cbv)|(refine CallThen.mk _ _ (C.fn (kq)) ?_;cbv)|(refine Nm fun _ _=>?_;cbv)|(refine Br.t ?_ ?_;(focus first|assumption|lia);cbv)|(refine Br.f ?_ ?_;(focus first|assumption|lia);cbv)|(refine R0 ?_;cbv))
    all_goals first
     | exact⟨rfl,trivial⟩
     | (exfalso;contradiction)
     | (clear kw kl k1 k2 ks kd kq;lia)
     | trace_state
   ·have k1:=ibuild_err2 O S.data.toList (by omega) docs (by omega) hd1 he hok
    have k2:=rbuild_err2 O S.data.toList (by omega) docs (by omega) hd2 he hok
    rw[hS] at k1 k2
    rw[docsErr,if_neg hok] at kd
    rw[Bool.eq_false_iff.2 hok] at kq
    clear hlt hd1 hd2 hp hS he hok
    refine go (fn:=Proofs.Tryz.f3) (n:=47) (rv:=[ResultVar.tmp 4]) rfl (by decide) rfl (by decide +kernel) rfl rfl (by simp) fun F L C=>?_
    cbv
    (repeat' first|(refine CallThen.bool (C.fn (kl)) (fun _=>?_) (fun _=>?_)<;>cbv)|(refine CallThen.mk _ _ (C.fn (kw)) ?_;cbv)|(refine CallThen.mk _ _ (C.fn (k1)) ?_;cbv)|(refine CallThen.mk _ _ (C.fn (k2)) ?_;cbv)|(refine CallThen.mk _ _ (C.fn (Fn.wkA (ks0) ?_)) ?_;(focus((repeat' apply WkAL.cons)<;>first|exact WkAL.nil|exact WkA.refl _|exact WkA.lend rfl|exact WkA.bor rfl (WkR.refl _)|exact WkA.wk (Wk.nil _ _)|exact WkA.wk (Wk.sl' rfl rfl (WkR.refl _))|(refine WkA.agg' ?_;((repeat' apply WkAL.cons)<;>first|exact WkAL.nil|exact WkA.refl _|exact WkA.lend rfl|exact WkA.bor rfl (WkR.refl _)|exact WkA.wk (Wk.nil _ _)|exact WkA.wk (Wk.sl' rfl rfl (WkR.refl _))|(refine WkA.agg' ?_;((repeat' apply WkAL.cons)<;>first|exact WkAL.nil|exact WkA.refl _|exact WkA.lend rfl|exact WkA.bor rfl (WkR.refl _)|exact WkA.wk (Wk.nil _ _)|exact WkA.wk (Wk.sl' rfl rfl (WkR.refl _))))))));cbv)|(refine CallThen.mk _ _ (C.fn (kd)) ?_;cbv)|(refine CallThen.mk _ _ (C.fn (kq)) ?_;cbv)|(refine Nm fun _ _=>?_;cbv)|(refine Br.t ?_ ?_;(focus first|assumption|lia);cbv)|(refine Br.f ?_ ?_;(focus first|assumption|lia);cbv)|(refine R0 ?_;cbv))
    all_goals first
     | exact⟨rfl,trivial⟩
     | (exfalso;contradiction)
     | (clear kw kl k1 k2 ks0 kd kq;lia)
     | trace_state
open Go Go.Proofs Go.Proofs.Tryz
theorem indexBuilds_law {a0:ByteArray} {n1:Nat} {x1:PV} (_:a0.data.toList.length≤maxLen) (s1:shape prog n1 22 [x1]):Fn prog 3 [.str a0,x1] [] [.bool true] []:=by
 obtain⟨l,wl,hl,hi⟩:=shape_ndocs s1
 have h:=indexBuilds_fn Opq.id a0 l hl (fun n hn=>⟨(hi n hn).2.1,fun f hf=>((hi n hn).2.2 f hf).1⟩)
 exact h.wkArgs (.cons (.refl _) (.cons wl (.refl _)))
end Go.Sym
