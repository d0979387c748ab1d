/- The document's side: which documents may be; what stands; alike. -/
import Derived.Test.YtfkigahipkndgaaGreatDoorK1
import Derived.Test.YtfkigahipkndgaaGreatDoorK2
import Derived.Test.YtfkigahipkndgaaGreatDoorK3
set_option linter.all false
set_option linter.unusedVariables false
set_option linter.unusedSimpArgs false
namespace Go.Sym
open Go Go.Proofs.Tryz
set_option maxRecDepth 100000
theorem r11docs_fn (O:Opq) (l:List Ndoc) (hl:l.length≤1099511627776) (hd:∀ n∈l,n.doc.length≤1099511627776∧∀ f∈n.doc,f.path.size≤9223372036854775807):Fn prog 149 [.sl false 0 false 2 (O.o (Nms.enc O) l)] [] [.bool (O.o docsOk l)] []:=by
 have hlen:=Nms.len O l
 have hbad:docsOk l=false→O.o docsOk l=false:=fun h=>by rw[O.h];exact h
 have hgood:docsOk l=true→O.o docsOk l=true:=fun h=>by rw[O.h];exact h
 obtain⟨Q,eQ⟩:∃ Q,Q=O.o docsOk l:=⟨_,rfl⟩
 rw[← eQ] at hbad hgood ⊢
 obtain⟨N,hN⟩:∃ N:Nat,N=l.length:=⟨_,rfl⟩
 obtain⟨z,hz⟩:∃ z:Nat,z=0:=⟨_,rfl⟩
 clear eQ
 refine go (fn:=Proofs.Tryz.f149) (n:=52) (rv:=[ResultVar.tmp 2]) rfl (by decide) rfl (by decide +kernel) rfl rfl (by simp) fun F L C=>?_
 cbv
 (repeat' first|(refine Na ?_ fun _ _=>?_;(focus lia);cbv)|(refine Nl fun _ _ hq=>?_;(try simp only [lenS] at hq);cbv)|(refine Nm fun _ _=>?_;cbv)|(refine Br.t ?_ ?_;(focus first|assumption|lia);cbv)|(refine Br.f ?_ ?_;(focus first|assumption|lia);cbv)|(refine Br.mk (fun _=>?_) (fun _=>?_)<;>cbv)|(refine Need.mk ?_ ?_;rotate_left;cbv)|(refine R0 ?_;cbv))
 refine LoopThen.mk (C.loopAt (ι:=Nat) [(2,52)] (fun i=>[(2,.bool false),(3,.int .i64 i)]) (fun _=>[])
  (fun i=>i≤N∧∀ j,j<i→okN l j) (fun i=>N-i) (by decide +kernel) (Start.mk z [] [] ⟨by lia,fun j hj=>by omega⟩ (by cbv;(repeat' apply And.intro)<;>first|exact True.intro|exact WkR.refl _|rfl|lia)) ?_)
 intro i g
 cbv
 have g1:i≤N:=g.1
 have g2:=g.2
 clear g
 by_cases hi:i<l.length
 ·obtain⟨x,hx⟩:∃ x,l[i]?=some x:=⟨l[i],by simp [hi]⟩
  have hxd:=hd x (List.mem_of_getElem? hx)
  have hno:¬ (isKey x.key=true∧may x.doc=true∧(0<i→∃ g,l[i-1]?=some g∧slt g.key x.key))→Q=false:=fun h=>hbad (docsOk_bad hx h)
  have hst:(isKey x.key=true∧may x.doc=true∧(0<i→∃ g,l[i-1]?=some g∧slt g.key x.key))→∀ j,j<i+1→okN l j:=fun h=>okN_step g2 ((okN_iff hx).2 h)
  have hc:=may_fn O x.doc hxd.1 hxd.2
  have hk2:isKey x.key=true ↔ 1≤x.key.size∧x.key.size≤64:=by simp [isKey]
  have hc2:O.o may x.doc=may x.doc:=by rw[O.h]
  obtain⟨e,ee⟩:∃ b,b=O.o may x.doc:=⟨_,rfl⟩
  rw[← ee] at hc hc2
  rw[hk2,← hc2] at hno hst
  clear hbad hgood g2 ee hk2 hc2 hd hxd
  by_cases h0:0<i
  ·obtain⟨y,hy⟩:∃ y,l[i-1]?=some y:=⟨l[i-1],by simp⟩
   have hyy:(0<i→∃ g,l[i-1]?=some g∧slt g.key x.key) ↔ slt y.key x.key:=⟨fun h=>by obtain⟨g,h1,h2⟩:=h h0;rw[hy] at h1;cases h1;exact h2,fun h _=>⟨y,hy,h⟩⟩
   rw[hyy] at hno hst
   clear hyy
   obtain⟨xk,xd⟩:=x
   obtain⟨yk,yd⟩:=y
   simp only at hno hst hc
   obtain⟨i1,hi1⟩:∃ j,j=i-1:=⟨_,rfl⟩
   rw[← hi1] at hy
   (repeat' first|(refine Na ?_ fun _ _=>?_;(focus lia);cbv)|(refine Ex.known O (Ndoc.enc O) rfl hx ?_ ?_;(focus lia);cbv)|(refine Ex.known O (Ndoc.enc O) rfl hy ?_ ?_;(focus lia);cbv)|(refine CallThen.bool (C.fn (hc)) (fun _=>?_) (fun _=>?_)<;>cbv)|(refine Back.up [] [] ?_ ?_ fun _ _=>?_;rotate_left 2;cbv;refine And.intro ?_ ?_)|(refine Nl fun _ _ hq=>?_;(try simp only [lenS] at hq);cbv)|(refine Nm fun _ _=>?_;cbv)|(refine Br.t ?_ ?_;(focus first|assumption|lia);cbv)|(refine Br.f ?_ ?_;(focus first|assumption|lia);cbv)|(refine Br.mk (fun _=>?_) (fun _=>?_)<;>cbv)|(refine Need.mk ?_ ?_;rotate_left;cbv)|(refine R0 ?_;cbv))
   all_goals(repeat' apply And.intro)
   all_goals try first
    | exact True.intro
    | exact WkR.refl _
    | (clear hx hy hno hst hc;lia)
   all_goals first
    | (refine hno fun h=>?_;clear hno hst hx hy hc;grind [slt_asymm,slt_irrefl,slt_not])
    | (refine hst ⟨⟨by clear hno hst hx hy hc;lia,by clear hno hst hx hy hc;lia⟩,by assumption,?_⟩;clear hno hst hx hy hc;grind [slt_asymm,slt_irrefl,slt_not])
    | trace_state
  ·have hyy:(0<i→∃ g,l[i-1]?=some g∧slt g.key x.key) ↔ True:=⟨fun _=>trivial,fun _ h=>absurd h h0⟩
   rw[hyy] at hno hst
   clear hyy
   obtain⟨xk,xd⟩:=x
   simp only at hno hst hc
   (repeat' first|(refine Na ?_ fun _ _=>?_;(focus lia);cbv)|(refine Ex.known O (Ndoc.enc O) rfl hx ?_ ?_;(focus lia);cbv)|(refine CallThen.bool (C.fn (hc)) (fun _=>?_) (fun _=>?_)<;>cbv)|(refine Back.up [] [] ?_ ?_ fun _ _=>?_;rotate_left 2;cbv;refine And.intro ?_ ?_)|(refine Nl fun _ _ hq=>?_;(try simp only [lenS] at hq);cbv)|(refine Nm fun _ _=>?_;cbv)|(refine Br.t ?_ ?_;(focus first|assumption|lia);cbv)|(refine Br.f ?_ ?_;(focus first|assumption|lia);cbv)|(refine Br.mk (fun _=>?_) (fun _=>?_)<;>cbv)|(refine Need.mk ?_ ?_;rotate_left;cbv)|(refine R0 ?_;cbv))
   all_goals(repeat' apply And.intro)
   all_goals try first
    | exact True.intro
    | exact WkR.refl _
    | (clear hx hno hst hc;lia)
   all_goals first
    | (refine hno fun h=>?_;clear hno hst hx hc;grind)
    | (refine hst ⟨⟨by clear hno hst hx hc;lia,by clear hno hst hx hc;lia⟩,by assumption,trivial⟩)
    | trace_state
 ·have hg:=hgood (docsOk_good fun j hj=>g2 j (by omega))
  clear hbad hgood g2 hd
  (repeat' first|(refine Na ?_ fun _ _=>?_;(focus lia);cbv)|(refine Nl fun _ _ hq=>?_;(try simp only [lenS] at hq);cbv)|(refine Nm fun _ _=>?_;cbv)|(refine Br.t ?_ ?_;(focus first|assumption|lia);cbv)|(refine Br.f ?_ ?_;(focus first|assumption|lia);cbv)|(refine Br.mk (fun _=>?_) (fun _=>?_)<;>cbv)|(refine Need.mk ?_ ?_;rotate_left;cbv)|(refine R0 ?_;cbv))
  all_goals first
   | exact⟨hg,trivial⟩
   | exact⟨hg.symm,trivial⟩
   | (exfalso;lia)
   | trace_state
theorem r12may_fn (O:Opq) (l:List Ndoc) (hl:l.length≤1099511627776) (hd:∀ n∈l,n.doc.length≤1099511627776∧∀ f∈n.doc,f.path.size≤9223372036854775807):Fn prog 88 [.sl false 0 false 2 (O.o (Nms.enc O) l)] [] [.bool (O.o mayD l)] []:=by
  have hlen:=Nms.len O l
  have h:=r11docs_fn O l hl hd
  have hE:O.o mayD l=true ↔ l.length≤24∧O.o docsOk l=true:=by
    simp only [O.h,mayD,Bool.and_eq_true,decide_eq_true_eq]
  obtain⟨e,ee⟩:∃ e,e=O.o docsOk l:=⟨_,rfl⟩
  obtain⟨Q,eQ⟩:∃ e,e=O.o mayD l:=⟨_,rfl⟩
  rw[← ee] at h hE
  rw[← eQ] at hE ⊢
  clear ee eQ hd
  refine go (fn:=Proofs.Tryz.f88) (n:=9) (rv:=[ResultVar.tmp 2]) rfl (by decide) rfl (by decide +kernel) rfl rfl (by simp) fun F L C=>?_
  cbv
  (repeat' first|(refine Na ?_ fun _ _=>?_;(focus lia);cbv)|(refine CallThen.bool (C.fn (h)) (fun _=>?_) (fun _=>?_)<;>cbv)|(refine Nl fun _ _ hq=>?_;(try simp only [lenS] at hq);cbv)|(refine Nm fun _ _=>?_;cbv)|(refine Br.t ?_ ?_;(focus first|assumption|lia);cbv)|(refine Br.f ?_ ?_;(focus first|assumption|lia);cbv)|(refine Br.mk (fun _=>?_) (fun _=>?_)<;>cbv)|(refine Need.mk ?_ ?_;rotate_left;cbv)|(refine R0 ?_;cbv))
  all_goals first
    | (refine⟨?_,trivial⟩;exact hE.2 ⟨by clear hE h;lia,by assumption⟩)
    | (refine ⟨?_, trivial⟩
       cases hb:Q with
       | false=>rfl
       | true =>
         exfalso
         obtain⟨k1,k2⟩:=hE.1 hb
         first
           | (rw[k2] at *;contradiction)
           | (clear hE h;lia)
           | (simp_all;done))
    | trace_state
theorem r12at_fn (O:Opq) (l:List Ndoc) (p:ByteArray) (hd:l.length≤1099511627776):Fn prog 206 [.sl false 0 false 2 (O.o (Nms.enc O) l),.str p] [] [.int .i64 (O.o (findI (hasK Ndoc.key p)) l)] []:=by
 have hlen:=Nms.len O l
 obtain⟨N,hN⟩:∃ N:Nat,N=l.length:=⟨_,rfl⟩
 obtain⟨z,hz⟩:∃ z:Nat,z=0:=⟨_,rfl⟩
 refine go (fn:=Proofs.Tryz.f206) (n:=18) (rv:=[ResultVar.tmp 4]) rfl (by decide) rfl (by decide +kernel) rfl rfl (by simp) fun F L C=>?_
 cbv
 (repeat' first|(refine Na ?_ fun _ _=>?_;(focus lia);cbv)|(refine Nl fun _ _ hq=>?_;(try simp only [lenS] at hq);cbv)|(refine Nm fun _ _=>?_;cbv)|(refine Br.t ?_ ?_;(focus first|assumption|lia);cbv)|(refine Br.f ?_ ?_;(focus first|assumption|lia);cbv)|(refine Br.mk (fun _=>?_) (fun _=>?_)<;>cbv)|(refine Need.mk ?_ ?_;rotate_left;cbv)|(refine R0 ?_;cbv))
 refine LoopThen.mk (C.loopAt (ι:=Nat) [(4,19)] (fun k=>[(4,.int .i64 0),(5,.int .i64 k)]) (fun _=>[])
  (fun k=>k≤l.length∧∀ (j:Nat) y,j<k→l[j]?=some y→hasK Ndoc.key p y=false) (fun k=>N-k) (by decide +kernel) (Start.mk z [] [] ⟨by lia,fun j y hj=>by omega⟩ (by cbv;(repeat' apply And.intro)<;>first|exact True.intro|exact WkR.refl _|rfl|lia)) ?_)
 intro k g
 cbv
 have h1:k≤l.length:=g.1
 have h2:=g.2
 clear g
 (repeat' first|(refine Na ?_ fun _ _=>?_;(focus lia);cbv)|(refine Ex.map O (Ndoc.enc O) rfl ?_ fun x hx=>?_;rotate_left;obtain⟨q,k'⟩:=x;cbv)|(refine Back.up [] [] ?_ ?_ fun _ _=>?_;rotate_left 2;cbv)|(refine Nl fun _ _ hq=>?_;(try simp only [lenS] at hq);cbv)|(refine Nm fun _ _=>?_;cbv)|(refine Br.t ?_ ?_;(focus first|assumption|lia);cbv)|(refine Br.f ?_ ?_;(focus first|assumption|lia);cbv)|(refine Br.mk (fun _=>?_) (fun _=>?_)<;>cbv)|(refine Need.mk ?_ ?_;rotate_left;cbv)|(refine R0 ?_;cbv))
 all_goals(try subst_vars)
 all_goals(try simp only [O.h,natTo,natPred,emp] at *)
 all_goals(try subst_vars)
 all_goals(repeat' apply And.intro)
 all_goals first
  | exact True.intro
  | exact WkR.refl _
  | lia
  | exact findI_at (k:=k) (by assumption) (by simp_all [hasK]) h2
  | exact findI_none fun j y hj=>h2 j y (by lia)
  | exact srch_step h2 (by assumption) (by simp_all [hasK])
theorem r12light_fn (O:Opq) (d:Doc) (hd:d.length≤1099511627776) (hp:∀ f∈d,f.path.size≤9223372036854775807):Fn prog 280 [.sl false 0 false 6 (O.o Doc.enc d)] [] [.bool (O.o lightD d)] []:=by
  have hm:=may_fn O d hd hp
  have hmo:O.o may d=may d:=by rw[O.h]
  rw[hmo] at hm
  cases hh:may d with
  | false =>
    have hL:O.o lightD d=false:=by rw[O.h,lightD,hh];rfl
    rw[hL]
    rw[hh] at hm
    clear hL hmo hp
    refine go (fn:=Proofs.Tryz.f280) (n:=11) (rv:=[ResultVar.tmp 2]) rfl (by decide) rfl (by decide +kernel) rfl rfl (by simp) fun F L C=>?_
    cbv
    (repeat' first|(refine Na ?_ fun _ _=>?_;(focus lia);cbv)|(refine CallThen.mk _ _ (C.fn (hm)) ?_;cbv)|(refine Nl fun _ _ hq=>?_;(try simp only [lenS] at hq);cbv)|(refine Nm fun _ _=>?_;cbv)|(refine Br.t ?_ ?_;(focus first|assumption|lia);cbv)|(refine Br.f ?_ ?_;(focus first|assumption|lia);cbv)|(refine Br.mk (fun _=>?_) (fun _=>?_)<;>cbv)|(refine Need.mk ?_ ?_;rotate_left;cbv)|(refine R0 ?_;cbv))
    all_goals exact⟨rfl,trivial⟩
  | true =>
    have hL:O.o lightD d=true ↔ (O.o bts (O.o putC (O.o docC d))).length≤512:=by
      simp only [O.h,lightD,hh,Bool.true_and,decide_eq_true_eq,bts_len]
    rw[hh] at hm
    have hc:=rpcell_fn O d hh
    have hby:RBytes O (O.o docC d):=by
      have h0:=docC_ok hh
      obtain⟨hg,hs⟩:=celErr_good h0
      rw[O.h docC]
      exact rbytes_fn O 4096 _ hs (Nat.le_refl _) hg.pure hg.short
    rw[RBytes] at hby
    obtain⟨x,ex⟩:∃ x,x=O.o docC d:=⟨_,rfl⟩
    obtain⟨Q,eQ⟩:∃ x,x=O.o lightD d:=⟨_,rfl⟩
    rw[← ex] at hc hby hL
    rw[← eQ] at hL ⊢
    clear hmo hp ex eQ
    obtain⟨k,n,t,l⟩:=x
    refine go (fn:=Proofs.Tryz.f280) (n:=11) (rv:=[ResultVar.tmp 2]) rfl (by decide) rfl (by decide +kernel) rfl rfl (by simp) fun F L C=>?_
    cbv
    (repeat' first|(refine Na ?_ fun _ _=>?_;(focus lia);cbv)|(refine CallThen.mk _ _ (C.fn (hm)) ?_;cbv)|(refine CallThen.mk _ _ (C.fn (hc)) ?_;cbv)|(refine CallThen.mk _ _ (C.fn (hby)) ?_;cbv)|(refine Nl fun _ _ hq=>?_;(try simp only [lenS] at hq);cbv)|(refine Nm fun _ _=>?_;cbv)|(refine Br.t ?_ ?_;(focus first|assumption|lia);cbv)|(refine Br.f ?_ ?_;(focus first|assumption|lia);cbv)|(refine Br.mk (fun _=>?_) (fun _=>?_)<;>cbv)|(refine Need.mk ?_ ?_;rotate_left;cbv)|(refine R0 ?_;cbv))
    all_goals first
      | (refine⟨?_,trivial⟩;exact hL.2 (by clear hL hc hby hm;lia))
      | (refine ⟨?_, trivial⟩
         cases hb:Q with
         | false=>rfl
         | true=>exfalso;have:=hL.1 hb;clear hL hc hby hm;lia)
      | trace_state
end Go.Sym
