/- Which documents may be; documents of their own memory; what stands. -/
import Derived.Test.YthaaoongjcmleaaGreatDoorJ15
set_option linter.all false
set_option linter.unusedVariables false
set_option linter.unusedSimpArgs false
namespace Go.Sym
open Go Go.Proofs.Tryz
set_option maxRecDepth 100000
theorem idocs_fn (O:Opq) (l:List Ndoc) (hl:l.length≤1099511627776) (hd:∀ n∈l,n.doc.length≤1099511627776):Fn prog 121 [.sl false 0 false 2 (O.o (Nms.enc O) l)] [] [.int .i64 (O.o docsErr l)] []:=by
 have hlen:=Nms.len O l
 have hbad:docsOk l=false→O.o docsErr l=1:=fun h=>by rw[O.h,docsErr,h];rfl
 have hgood:docsOk l=true→O.o docsErr l=0:=fun h=>by rw[O.h];exact docsErr_zero.2 h
 obtain⟨Q,eQ⟩:∃ Q,Q=O.o docsErr l:=⟨_,rfl⟩
 rw[← eQ] at hbad hgood ⊢
 obtain⟨N,hN⟩:∃ N:Nat,N=l.length:=⟨_,rfl⟩
 obtain⟨z,hz⟩:∃ z:Nat,z=0:=⟨_,rfl⟩
 clear eQ
 refine go (fn:=Proofs.Tryz.f121) (n:=37) (rv:=[ResultVar.tmp 2]) rfl (by decide) rfl (by decide +kernel) rfl rfl (by simp) fun F L C=>?_
 cbv
 (repeat' first|(refine Na ?_ fun _ _=>?_;(focus lia);cbv)|(refine Nl fun _ _ hq=>?_;(try simp only [lenS] at hq);cbv)|(refine Nm fun _ _=>?_;cbv)|(refine Br.t ?_ ?_;(focus first|assumption|lia);cbv)|(refine Br.f ?_ ?_;(focus first|assumption|lia);cbv)|(refine Br.mk (fun _=>?_) (fun _=>?_)<;>cbv)|(refine Need.mk ?_ ?_;rotate_left;cbv)|(refine R0 ?_;cbv))
 refine LoopThen.mk (C.loopAt (ι:=Nat) [(2,4),(7,37)] (fun i=>[(2,.int .i64 0),(7,.int .i64 i)]) (fun _=>[])
  (fun i=>i≤N∧∀ j,j<i→okN l j) (fun i=>N-i) (by decide +kernel) (Start.mk z [] [] ⟨by lia,fun j hj=>by omega⟩ (by cbv;(repeat' apply And.intro)<;>first|exact True.intro|exact WkR.refl _|rfl|lia)) ?_)
 intro i g
 cbv
 have g1:i≤N:=g.1
 have g2:=g.2
 clear g
 by_cases hi:i<l.length
 ·obtain⟨x,hx⟩:∃ x,l[i]?=some x:=⟨l[i],by simp [hi]⟩
  have hxd:=hd x (List.mem_of_getElem? hx)
  have hno:¬ (isKey x.key=true∧may x.doc=true∧(0<i→∃ g,l[i-1]?=some g∧slt g.key x.key))→Q=1:=fun h=>hbad (docsOk_bad hx h)
  have hst:(isKey x.key=true∧may x.doc=true∧(0<i→∃ g,l[i-1]?=some g∧slt g.key x.key))→∀ j,j<i+1→okN l j:=fun h=>okN_step g2 ((okN_iff hx).2 h)
  have hk:=key_fn O x.key
  have hc:=check_fn O x.doc hxd
  have hk2:O.o isKey x.key=isKey x.key:=by rw[O.h]
  have hc2:O.o docErr x.doc=0 ↔ may x.doc=true:=by rw[O.h];exact docErr_zero
  obtain⟨b,eb⟩:∃ b,b=O.o isKey x.key:=⟨_,rfl⟩
  obtain⟨e,ee⟩:∃ b,b=O.o docErr x.doc:=⟨_,rfl⟩
  rw[← eb] at hk hk2
  rw[← ee] at hc hc2
  rw[← hk2,← hc2] at hno hst
  clear hbad hgood g2 eb ee hk2 hc2 hd hxd
  by_cases h0:0<i
  ·obtain⟨y,hy⟩:∃ y,l[i-1]?=some y:=⟨l[i-1],by simp⟩
   have hyy:(0<i→∃ g,l[i-1]?=some g∧slt g.key x.key) ↔ slt y.key x.key:=⟨fun h=>by obtain⟨g,h1,h2⟩:=h h0;rw[hy] at h1;cases h1;exact h2,fun h _=>⟨y,hy,h⟩⟩
   rw[hyy] at hno hst
   clear hyy
   obtain⟨xk,xd⟩:=x
   obtain⟨yk,yd⟩:=y
   simp only at hno hst hk hc
   obtain⟨i1,hi1⟩:∃ j,j=i-1:=⟨_,rfl⟩
   rw[← hi1] at hy
   (repeat' first|(refine Na ?_ fun _ _=>?_;(focus lia);cbv)|(refine Ex.known O (Ndoc.enc O) rfl hx ?_ ?_;(focus lia);cbv)|(refine Ex.known O (Ndoc.enc O) rfl hy ?_ ?_;(focus lia);cbv)|(refine CallThen.bool (C.fn (hk)) (fun _=>?_) (fun _=>?_)<;>cbv)|(refine CallThen.mk _ _ (C.fn (hc)) ?_;cbv)|(refine Back.up [] [] ?_ ?_ fun _ _=>?_;rotate_left 2;cbv;refine And.intro ?_ ?_)|(refine Nl fun _ _ hq=>?_;(try simp only [lenS] at hq);cbv)|(refine Nm fun _ _=>?_;cbv)|(refine Br.t ?_ ?_;(focus first|assumption|lia);cbv)|(refine Br.f ?_ ?_;(focus first|assumption|lia);cbv)|(refine Br.mk (fun _=>?_) (fun _=>?_)<;>cbv)|(refine Need.mk ?_ ?_;rotate_left;cbv)|(refine R0 ?_;cbv))
   all_goals(repeat' apply And.intro)
   all_goals try first
    | exact True.intro
    | exact WkR.refl _
    | (clear hx hy hno hst hk hc;lia)
   all_goals first
    | (refine hno fun h=>?_;clear hno hst hx hy hk hc;grind [slt_asymm,slt_irrefl,slt_not])
    | (refine hst ?_;clear hno hst hx hy hk hc;grind [slt_asymm,slt_irrefl,slt_not])
    | trace_state
  ·have hyy:(0<i→∃ g,l[i-1]?=some g∧slt g.key x.key) ↔ True:=⟨fun _=>trivial,fun _ h=>absurd h h0⟩
   rw[hyy] at hno hst
   clear hyy
   obtain⟨xk,xd⟩:=x
   simp only at hno hst hk hc
   (repeat' first|(refine Na ?_ fun _ _=>?_;(focus lia);cbv)|(refine Ex.known O (Ndoc.enc O) rfl hx ?_ ?_;(focus lia);cbv)|(refine CallThen.bool (C.fn (hk)) (fun _=>?_) (fun _=>?_)<;>cbv)|(refine CallThen.mk _ _ (C.fn (hc)) ?_;cbv)|(refine Back.up [] [] ?_ ?_ fun _ _=>?_;rotate_left 2;cbv;refine And.intro ?_ ?_)|(refine Nl fun _ _ hq=>?_;(try simp only [lenS] at hq);cbv)|(refine Nm fun _ _=>?_;cbv)|(refine Br.t ?_ ?_;(focus first|assumption|lia);cbv)|(refine Br.f ?_ ?_;(focus first|assumption|lia);cbv)|(refine Br.mk (fun _=>?_) (fun _=>?_)<;>cbv)|(refine Need.mk ?_ ?_;rotate_left;cbv)|(refine R0 ?_;cbv))
   all_goals(repeat' apply And.intro)
   all_goals try first
    | exact True.intro
    | exact WkR.refl _
    | (clear hx hno hst hk hc;lia)
   all_goals first
    | (refine hno fun h=>?_;clear hno hst hx hk hc;grind)
    | (refine hst ?_;clear hno hst hx hk hc;grind)
    | trace_state
 ·have hg:=hgood (docsOk_good fun j hj=>g2 j (by omega))
  clear hbad hgood g2 hd
  (repeat' first|(refine Na ?_ fun _ _=>?_;(focus lia);cbv)|(refine Nl fun _ _ hq=>?_;(try simp only [lenS] at hq);cbv)|(refine Nm fun _ _=>?_;cbv)|(refine Br.t ?_ ?_;(focus first|assumption|lia);cbv)|(refine Br.f ?_ ?_;(focus first|assumption|lia);cbv)|(refine Br.mk (fun _=>?_) (fun _=>?_)<;>cbv)|(refine Need.mk ?_ ?_;rotate_left;cbv)|(refine R0 ?_;cbv))
  all_goals first
   | exact⟨hg,trivial⟩
   | (exfalso;lia)
   | trace_state
theorem scheck_fn (O:Opq) (l:List Ndoc) (hl:l.length≤1099511627776) (hd:∀ n∈l,n.doc.length≤1099511627776):Fn prog 86 [.sl false 0 false 2 (O.o (Nms.enc O) l)] [] [.int .i64 (O.o mayDE l)] []:=by
 have hlen:=Nms.len O l
 have h:=idocs_fn O l hl hd
 have hE:O.o mayDE l=if l.length≤24∧O.o docsErr l=0 then 0 else 1:=by
  simp only [O.h,mayDE,docsErr_zero,mayD,Bool.and_eq_true,decide_eq_true_eq]
 obtain⟨e,ee⟩:∃ e,e=O.o docsErr l:=⟨_,rfl⟩
 obtain⟨Q,eQ⟩:∃ e,e=O.o mayDE l:=⟨_,rfl⟩
 rw[← ee] at h hE
 rw[← eQ] at hE ⊢
 clear ee eQ hd
 refine go (fn:=Proofs.Tryz.f86) (n:=10) (rv:=[ResultVar.tmp 2]) rfl (by decide) rfl (by decide +kernel) rfl rfl (by simp) fun F L C=>?_
 cbv
 (repeat' first|(refine Na ?_ fun _ _=>?_;(focus lia);cbv)|(refine CallThen.mk _ _ (C.fn (h)) ?_;cbv)|(refine Nl fun _ _ hq=>?_;(try simp only [lenS] at hq);cbv)|(refine Nm fun _ _=>?_;cbv)|(refine Br.t ?_ ?_;(focus first|assumption|lia);cbv)|(refine Br.f ?_ ?_;(focus first|assumption|lia);cbv)|(refine Br.mk (fun _=>?_) (fun _=>?_)<;>cbv)|(refine Need.mk ?_ ?_;rotate_left;cbv)|(refine R0 ?_;cbv))
 all_goals first
  | (refine⟨?_,trivial⟩;rw[hE,if_neg (by clear hE h;lia)];done)
  | (refine⟨?_,trivial⟩;rw[hE,if_pos (by clear hE h;lia)];done)
  | trace_state
theorem ownN_fn (O:Opq) (l:List Ndoc) (hl:l.length≤1099511627) (hd:∀ n∈l,n.doc.length≤1099511627):Fn prog 125 [.sl true 0 false 2 (O.o (Nms.enc O) l)] [] [.ref 0] [.arr 0 none 2 (O.o (Nms.enc O) l)]:=by
 have hlen:=Nms.len O l
 have hcl:=cloneN_fn O l hl
 obtain⟨N,hN⟩:∃ N:Nat,N=l.length:=⟨_,rfl⟩
 obtain⟨z,hz⟩:∃ z:Nat,z=0:=⟨_,rfl⟩
 refine go (fn:=Proofs.Tryz.f125) (n:=22) (rv:=[ResultVar.tmp 2]) rfl (by decide) rfl (by decide +kernel) rfl rfl (by simp) fun F L C=>?_
 cbv
 (repeat' first|(refine Na ?_ fun _ _=>?_;(focus lia);cbv)|(refine CallThen.mk _ _ (C.fn (hcl)) ?_;cbv)|(refine Nl fun _ _ hq=>?_;(try simp only [lenS] at hq);cbv)|(refine Nm fun _ _=>?_;cbv)|(refine Br.t ?_ ?_;(focus first|assumption|lia);cbv)|(refine Br.f ?_ ?_;(focus first|assumption|lia);cbv)|(refine Br.mk (fun _=>?_) (fun _=>?_)<;>cbv)|(refine Need.mk ?_ ?_;rotate_left;cbv)|(refine R0 ?_;cbv))
 refine LoopThen.mk (C.loopAt (ι:=Nat) [(3,4),(9,21)] (fun k=>[(9,.int .i64 k)]) (fun _=>[(512,.arr 0 none 2 (O.o (Nms.enc O) l))])
  (fun k=>k≤N) (fun k=>N-k) (by decide +kernel) (Start.mk z [] [] (by lia) (by cbv;(repeat' apply And.intro)<;>first|exact True.intro|exact WkR.refl _|rfl|lia)) ?_)
 intro k g
 cbv
 by_cases hk:k<l.length
 ·obtain⟨x,hx⟩:∃ x,l[k]?=some x:=⟨l[k],by simp [hk]⟩
  have hxd:=hd x (List.mem_of_getElem? hx)
  have hse:=nms_set O hx
  clear hd hcl
  obtain⟨key,doc⟩:=x
  (repeat' first|(refine Na ?_ fun _ _=>?_;(focus lia);cbv)|(refine Ex.known O (Ndoc.enc O) rfl hx ?_ ?_;(focus lia);cbv)|(refine CallThen.mk _ _ (C.fn (cloneW_fn O doc hxd)) ?_;cbv)|(refine Back.up [] [] ?_ ?_ fun _ _=>?_;rotate_left 2;cbv;refine And.intro ?_ ?_)|(refine Nl fun _ _ hq=>?_;(try simp only [lenS] at hq);cbv)|(refine Nm fun _ _=>?_;cbv)|(refine Br.t ?_ ?_;(focus first|assumption|lia);cbv)|(refine Br.f ?_ ?_;(focus first|assumption|lia);cbv)|(refine Br.mk (fun _=>?_) (fun _=>?_)<;>cbv)|(refine Need.mk ?_ ?_;rotate_left;cbv)|(refine R0 ?_;cbv))
  all_goals(repeat' apply And.intro)
  all_goals try first
   | exact True.intro
   | exact WkR.refl _
   | (clear hse hx;lia)
  ·rename_i i1 ei1 i2 ei2 R eR n1 en1 n2 en2
   exact WkR.of_eq (by rw[eR,show i2=k from ei2];exact hse.symm)
 ·clear hcl
  (repeat' first|(refine Na ?_ fun _ _=>?_;(focus lia);cbv)|(refine RetThen.mk [(0,.loc 512)] [] ?_;cbv)|(refine Nl fun _ _ hq=>?_;(try simp only [lenS] at hq);cbv)|(refine Nm fun _ _=>?_;cbv)|(refine Br.t ?_ ?_;(focus first|assumption|lia);cbv)|(refine Br.f ?_ ?_;(focus first|assumption|lia);cbv)|(refine Br.mk (fun _=>?_) (fun _=>?_)<;>cbv)|(refine Need.mk ?_ ?_;rotate_left;cbv)|(refine R0 ?_;cbv))
  all_goals(repeat' apply And.intro)
  all_goals first
   | exact True.intro
   | exact WkR.refl _
   | lia
   | trace_state
theorem ownNW_fn (O:Opq) (l:List Ndoc) (hl:l.length≤1099511627) (hd:∀ n∈l,n.doc.length≤1099511627):Fn prog 125 [.sl true 0 false 2 (O.o (Nms.enc O) l)] [] [.sl false 0 false 2 (O.o (Nms.enc O) l)] []:=by
 have hlen:=Nms.len O l
 have hcl:=cloneN_fn O l hl
 obtain⟨N,hN⟩:∃ N:Nat,N=l.length:=⟨_,rfl⟩
 obtain⟨z,hz⟩:∃ z:Nat,z=0:=⟨_,rfl⟩
 refine go (fn:=Proofs.Tryz.f125) (n:=22) (rv:=[ResultVar.tmp 2]) rfl (by decide) rfl (by decide +kernel) rfl rfl (by simp) fun F L C=>?_
 cbv
 (repeat' first|(refine Na ?_ fun _ _=>?_;(focus lia);cbv)|(refine CallThen.mk _ _ (C.fn (hcl)) ?_;cbv)|(refine Nl fun _ _ hq=>?_;(try simp only [lenS] at hq);cbv)|(refine Nm fun _ _=>?_;cbv)|(refine Br.t ?_ ?_;(focus first|assumption|lia);cbv)|(refine Br.f ?_ ?_;(focus first|assumption|lia);cbv)|(refine Br.mk (fun _=>?_) (fun _=>?_)<;>cbv)|(refine Need.mk ?_ ?_;rotate_left;cbv)|(refine R0 ?_;cbv))
 refine LoopThen.mk (C.loopAt (ι:=Nat) [(3,4),(9,21)] (fun k=>[(9,.int .i64 k)]) (fun _=>[(512,.arr 0 none 2 (O.o (Nms.enc O) l))])
  (fun k=>k≤N) (fun k=>N-k) (by decide +kernel) (Start.mk z [] [] (by lia) (by cbv;(repeat' apply And.intro)<;>first|exact True.intro|exact WkR.refl _|rfl|lia)) ?_)
 intro k g
 cbv
 by_cases hk:k<l.length
 ·obtain⟨x,hx⟩:∃ x,l[k]?=some x:=⟨l[k],by simp [hk]⟩
  have hxd:=hd x (List.mem_of_getElem? hx)
  have hse:=nms_set O hx
  clear hd hcl
  obtain⟨key,doc⟩:=x
  (repeat' first|(refine Na ?_ fun _ _=>?_;(focus lia);cbv)|(refine Ex.known O (Ndoc.enc O) rfl hx ?_ ?_;(focus lia);cbv)|(refine CallThen.mk _ _ (C.fn (cloneW_fn O doc hxd)) ?_;cbv)|(refine Back.up [] [] ?_ ?_ fun _ _=>?_;rotate_left 2;cbv;refine And.intro ?_ ?_)|(refine Nl fun _ _ hq=>?_;(try simp only [lenS] at hq);cbv)|(refine Nm fun _ _=>?_;cbv)|(refine Br.t ?_ ?_;(focus first|assumption|lia);cbv)|(refine Br.f ?_ ?_;(focus first|assumption|lia);cbv)|(refine Br.mk (fun _=>?_) (fun _=>?_)<;>cbv)|(refine Need.mk ?_ ?_;rotate_left;cbv)|(refine R0 ?_;cbv))
  all_goals(repeat' apply And.intro)
  all_goals try first
   | exact True.intro
   | exact WkR.refl _
   | (clear hse hx;lia)
  ·rename_i i1 ei1 i2 ei2 R eR n1 en1 n2 en2
   exact WkR.of_eq (by rw[eR,show i2=k from ei2];exact hse.symm)
 ·clear hcl
  (repeat' first|(refine Na ?_ fun _ _=>?_;(focus lia);cbv)|(refine RetThen.mk [] [512] ?_;cbv)|(refine Nl fun _ _ hq=>?_;(try simp only [lenS] at hq);cbv)|(refine Nm fun _ _=>?_;cbv)|(refine Br.t ?_ ?_;(focus first|assumption|lia);cbv)|(refine Br.f ?_ ?_;(focus first|assumption|lia);cbv)|(refine Br.mk (fun _=>?_) (fun _=>?_)<;>cbv)|(refine Need.mk ?_ ?_;rotate_left;cbv)|(refine R0 ?_;cbv))
  all_goals(repeat' apply And.intro)
  all_goals first
   | exact True.intro
   | exact WkR.refl _
   | (refine WkR.of_eq ?_;symm;assumption)
   | lia
   | trace_state
theorem refused_fn (O:Opq) (e:Int):Fn prog 130 [.int .i64 e] [] [.agg ((refA e).enc O)] []:=by
 have h0:O.o Doc.enc []=[]:=by rw[O.h];rfl
 have h1:O.o (Nms.enc O) []=[]:=by rw[O.h];rfl
 have h2:O.o (Chs.enc O) []=[]:=by rw[O.h];rfl
 have h3:O.o Prs.enc []=[]:=by rw[O.h];rfl
 refine go (fn:=Proofs.Tryz.f130) (n:=4) (rv:=[ResultVar.cell 2 61]) rfl (by decide) rfl (by decide +kernel) rfl rfl (by simp) fun F L C=>?_
 cbv
 (repeat' first|(refine Na ?_ fun _ _=>?_;(focus lia);cbv)|(refine Nl fun _ _ hq=>?_;(try simp only [lenS] at hq);cbv)|(refine Nm fun _ _=>?_;cbv)|(refine Br.t ?_ ?_;(focus first|assumption|lia);cbv)|(refine Br.f ?_ ?_;(focus first|assumption|lia);cbv)|(refine Br.mk (fun _=>?_) (fun _=>?_)<;>cbv)|(refine Need.mk ?_ ?_;rotate_left;cbv)|(refine R0 ?_;cbv))
 exact⟨h0,h1,h2,h3,trivial⟩
theorem docAt_at {l:List Ndoc} {p:ByteArray} {x:Ndoc} (h:l[posK Ndoc.key l p]?=some x):docAt l p=x.doc:=by rw[docAt,h]
theorem stands_fn (O:Opq) (l:List Ndoc) (p:ByteArray) (hl:l.length≤1099511627) (hs:sortedK Ndoc.key l) (hd:∀ n∈l,n.doc.length≤1099511627):Fn prog 129 [.sl false 0 false 2 (O.o (Nms.enc O) l),.str p] [] [.agg ((O.o (standA l) p).enc O)] []:=by
 have hlen:=Nms.len O l
 have h0:O.o Doc.enc []=[]:=by rw[O.h];rfl
 have h1:O.o (Nms.enc O) []=[]:=by rw[O.h];rfl
 have h2:O.o (Chs.enc O) []=[]:=by rw[O.h];rfl
 have h3:O.o Prs.enc []=[]:=by rw[O.h];rfl
 have hat:=atN_fn O false l p (by omega) hs
 have hg:O.o (getK Ndoc.key) l p=getK Ndoc.key l p:=by rw[O.h]
 have hp:O.o (posKZ Ndoc.key) l p=posK Ndoc.key l p:=by rw[O.h];rfl
 cases hk:getK Ndoc.key l p with
 | false =>
  have hr:O.o (standA l) p=ans0:=by rw[O.h,standA,hk];rfl
  rw[hr]
  rw[hg,hk] at hat
  clear hr hg hp hd
  refine go (fn:=Proofs.Tryz.f129) (n:=21) (rv:=[ResultVar.cell 4 61]) rfl (by decide) rfl (by decide +kernel) rfl rfl (by simp) fun F L C=>?_
  cbv
  (repeat' first|(refine Na ?_ fun _ _=>?_;(focus lia);cbv)|(refine CallThen.mk _ _ (C.fn (hat)) ?_;cbv)|(refine Nl fun _ _ hq=>?_;(try simp only [lenS] at hq);cbv)|(refine Nm fun _ _=>?_;cbv)|(refine Br.t ?_ ?_;(focus first|assumption|lia);cbv)|(refine Br.f ?_ ?_;(focus first|assumption|lia);cbv)|(refine Br.mk (fun _=>?_) (fun _=>?_)<;>cbv)|(refine Need.mk ?_ ?_;rotate_left;cbv)|(refine R0 ?_;cbv))
  all_goals first
   | exact⟨h0,h1,h2,h3,trivial⟩
   | trace_state
 | true =>
  obtain⟨x,hx,_⟩:=posK_there hs hk
  have hr:O.o (standA l) p=⟨0,true,x.doc,[],[],0,0,[]⟩:=by rw[O.h,standA,hk,docAt_at hx];rfl
  rw[hr]
  rw[hg,hk] at hat
  have hxd:=hd x (List.mem_of_getElem? hx)
  obtain⟨i,hi⟩:∃ i,i=posK Ndoc.key l p:=⟨_,rfl⟩
  rw[← hi] at hx hp
  obtain⟨w,hw⟩:∃ w,w=O.o (posKZ Ndoc.key) l p:=⟨_,rfl⟩
  rw[← hw] at hp hat
  clear hr hg hd hi hw
  obtain⟨xk,xd⟩:=x
  refine go (fn:=Proofs.Tryz.f129) (n:=21) (rv:=[ResultVar.cell 4 61]) rfl (by decide) rfl (by decide +kernel) rfl rfl (by simp) fun F L C=>?_
  cbv
  (repeat' first|(refine Na ?_ fun _ _=>?_;(focus lia);cbv)|(refine CallThen.mk _ _ (C.fn (hat)) ?_;cbv)|(refine Ex.known O (Ndoc.enc O) rfl hx ?_ ?_;(focus lia);cbv)|(refine CallThen.mk _ _ (C.fn (cloneW_fn O xd hxd)) ?_;cbv)|(refine Nl fun _ _ hq=>?_;(try simp only [lenS] at hq);cbv)|(refine Nm fun _ _=>?_;cbv)|(refine Br.t ?_ ?_;(focus first|assumption|lia);cbv)|(refine Br.f ?_ ?_;(focus first|assumption|lia);cbv)|(refine Br.mk (fun _=>?_) (fun _=>?_)<;>cbv)|(refine Need.mk ?_ ?_;rotate_left;cbv)|(refine R0 ?_;cbv))
  all_goals first
   | exact⟨.refl _,h1,h2,h3,trivial⟩
   | trace_state
theorem slight_fn (O:Opq) (d:Doc) (hd:d.length≤1099511627):Fn prog 177 [.sl false 0 false 6 (O.o Doc.enc d)] [] [.bool (O.o lightD d)] []:=by
  have hc:=pcell_fn O d hd
  have hsz:(O.o cellR d).size≤100:=by
    rw[O.h,cellR];split
    · rename_i h;exact docC_size h
    · simp [noC,Cel.size,Cels.size]
  have he:=encode_fn O (O.o cellR d) (by omega)
  have hlen:(O.o bts (O.o encB (O.o cellR d))).length=(O.o encB (O.o cellR d)).length:=by rw[O.h,bts_len]
  have hQ:O.o lightD d=true ↔ O.o docErr d=0∧O.o encE (O.o cellR d)=0∧(O.o encB (O.o cellR d)).length≤512:=by
    simp only [O.h]
    rw[docErr_zero,lightD,Bool.and_eq_true,decide_eq_true_eq]
    constructor
    · rintro ⟨h1,h2⟩
      have he:encE (cellR d)=0:=by
        rw[cellR,if_pos h1,encE,if_neg (by simp [docC_ok h1]),if_pos (by omega)]
      refine⟨h1,he,?_⟩
      rw[encB,if_pos he,cellR,if_pos h1];exact h2
    · rintro ⟨h1,h2,h3⟩
      rw[encB,if_pos h2,cellR,if_pos h1] at h3
      exact⟨h1,h3⟩
  obtain⟨Q,eQ⟩:∃ Q,Q=O.o lightD d:=⟨_,rfl⟩
  obtain⟨x,ex⟩:∃ x,x=O.o cellR d:=⟨_,rfl⟩
  rw[← ex] at hc he hlen hQ
  obtain⟨e1,ee1⟩:∃ y,y=O.o docErr d:=⟨_,rfl⟩
  obtain⟨e2,ee2⟩:∃ y,y=O.o encE x:=⟨_,rfl⟩
  obtain⟨b,eb⟩:∃ y,y=O.o encB x:=⟨_,rfl⟩
  rw[← ee1] at hc hQ
  rw[← ee2,← eb] at he hQ
  rw[← eb] at hlen
  rw[← eQ] at hQ ⊢
  clear eQ ex ee1 ee2 eb hsz
  obtain⟨k,n,t,l⟩:=x
  refine go (fn:=Proofs.Tryz.f177) (n:=27) (rv:=[ResultVar.tmp 2]) rfl (by decide) rfl (by decide +kernel) rfl rfl (by simp) fun F L C=>?_
  cbv
  (repeat' first|(refine Na ?_ fun _ _=>?_;(focus lia);cbv)|(refine CallThen.mk _ _ (C.fn (hc)) ?_;cbv)|(refine CallThen.mk _ _ (C.fn (he)) ?_;cbv)|(refine Nl fun _ _ hq=>?_;(try simp only [lenS] at hq);cbv)|(refine Nm fun _ _=>?_;cbv)|(refine Br.t ?_ ?_;(focus first|assumption|lia);cbv)|(refine Br.f ?_ ?_;(focus first|assumption|lia);cbv)|(refine Br.mk (fun _=>?_) (fun _=>?_)<;>cbv)|(refine Need.mk ?_ ?_;rotate_left;cbv)|(refine R0 ?_;cbv))
  all_goals first
    | (refine⟨?_,trivial⟩;exact hQ.2 (by clear hQ hc he;lia))
    | (refine ⟨?_, trivial⟩
       cases hb:Q with
       | false=>rfl
       | true=>exfalso;have:=hQ.1 hb;clear hQ hc he;lia)
    | trace_state
theorem nms_setK (O:Opq) {l:List Ndoc} {i:Nat} {k:ByteArray} {d:Doc}:O.o (Nms.enc O) (l.set i ⟨k,d⟩)=(O.o (Nms.enc O) l).set i [.str k,.sl false 0 false 6 (O.o Doc.enc d)]:=by
 simp only [O.h (Nms.enc O)];rw[Nms.enc,List.map_set];rfl
set_option maxHeartbeats 1000000 in
theorem fold_fn (O:Opq) (l:List Ndoc) (c:Change) (hl:l.length≤1099511627) (hs:sortedK Ndoc.key l) (hd:∀ n∈l,n.doc.length≤1099511627) (hcd:c.doc.length≤1099511627):Fn prog 147 [.sl false 0 false 2 (O.o (Nms.enc O) l),.agg (c.enc O)] [] [.sl false 0 false 2 (O.o (Nms.enc O) (O.o (foldD l) c))] []:=by
 have hlen:=Nms.len O l
 have how:Fn prog 125 [.sl false 0 false 2 (O.o (Nms.enc O) l)] [] [.ref 0] [.arr 0 none 2 (O.o (Nms.enc O) l)]:=(ownN_fn O l hl hd).wkA (.cons (.lend rfl) .nil)
 have hat:=atN_fn O true l c.key (by omega) hs
 have hg:O.o (getK Ndoc.key) l c.key=getK Ndoc.key l c.key:=by rw[O.h]
 have hp:O.o (posKZ Ndoc.key) l c.key=posK Ndoc.key l c.key:=by rw[O.h];rfl
 have hple:=posK_le (κ:=Ndoc.key) l c.key
 have hcl:=cloneW_fn O c.doc hcd
 have hins:=fun(v:List (List PV)) (hv:v=[Ndoc.enc O ⟨c.key,c.doc⟩])=>insertN_fn O l (O.o (posKZ Ndoc.key) l c.key) ⟨c.key,c.doc⟩ v hv hl (by omega) (by omega)
 have hdel:=fun(j:Int) (hj:j=O.o (posKZ Ndoc.key) l c.key+1) (hlt:posK Ndoc.key l c.key<l.length)=>deleteN_fn O l (O.o (posKZ Ndoc.key) l c.key) j hj hl (by omega) (by omega)
 cases hk:getK Ndoc.key l c.key with
 | false =>
  rw[hg,hk] at hat
  cases hh:c.has with
  | false =>
   have hr:O.o (Nms.enc O) (O.o (foldD l) c)=O.o (Nms.enc O) l:=by rw[O.h (foldD l),foldD_no hh hk]
   rw[hr]
   clear hins hdel hcl hr hg hd
   obtain⟨cp,ck,ch,cd⟩:=c
   replace hh:ch=false:=hh
   subst hh
   refine go (fn:=Proofs.Tryz.f147) (n:=48) (rv:=[ResultVar.tmp 4]) rfl (by decide) rfl (by decide +kernel) rfl rfl (by simp) fun F L C=>?_
   cbv
   (repeat' first|(refine Na ?_ fun _ _=>?_;(focus lia);cbv)|(refine CallThen.mk _ _ (C.fn (how)) ?_;cbv)|(refine CallThen.mk _ _ (C.fn (hat)) ?_;cbv)|(refine RetThen.mk [] [640] ?_;cbv)|(refine Nl fun _ _ hq=>?_;(try simp only [lenS] at hq);cbv)|(refine Nm fun _ _=>?_;cbv)|(refine Br.t ?_ ?_;(focus first|assumption|lia);cbv)|(refine Br.f ?_ ?_;(focus first|assumption|lia);cbv)|(refine Br.mk (fun _=>?_) (fun _=>?_)<;>cbv)|(refine Need.mk ?_ ?_;rotate_left;cbv)|(refine R0 ?_;cbv))
   all_goals first
    | (refine Nm fun rs e=>⟨.of_eq e.symm,by cbv⟩;done)
    | (refine⟨.of_eq ?_,trivial⟩;symm;assumption)
    | trace_state
  | true =>
   have hr:O.o (insKZ l) (O.o (posKZ Ndoc.key) l c.key) ⟨c.key,c.doc⟩=O.o (foldD l) c:=by rw[O.h,hp,O.h (foldD l),foldD_ins hh hk];rfl
   have hr2:O.o insKZ l (O.o (posKZ Ndoc.key) l c.key) ⟨c.key,c.doc⟩=O.o (foldD l) c:=by rw[← hr,O.h insKZ,O.h (insKZ l)]
   rw[hr2] at hins
   obtain⟨F,eF⟩:∃ F,F=O.o (foldD l) c:=⟨_,rfl⟩
   rw[← eF] at hins ⊢
   clear hdel hr hr2 hg hd eF
   obtain⟨cp,ck,ch,cd⟩:=c
   replace hh:ch=true:=hh
   subst hh
   refine go (fn:=Proofs.Tryz.f147) (n:=48) (rv:=[ResultVar.tmp 4]) rfl (by decide) rfl (by decide +kernel) rfl rfl (by simp) fun F L C=>?_
   cbv
   (repeat' first|(refine Na ?_ fun _ _=>?_;(focus lia);cbv)|(refine CallThen.mk _ _ (C.fn (how)) ?_;cbv)|(refine CallThen.mk _ _ (C.fn (hat)) ?_;cbv)|(refine CallThen.mk _ _ (C.fn (hcl)) ?_;cbv)|(refine CallThen.mk _ _ (C.fn (hins _ rfl)) ?_;cbv)|(refine Nl fun _ _ hq=>?_;(try simp only [lenS] at hq);cbv)|(refine Nm fun _ _=>?_;cbv)|(refine Br.t ?_ ?_;(focus first|assumption|lia);cbv)|(refine Br.f ?_ ?_;(focus first|assumption|lia);cbv)|(refine Br.mk (fun _=>?_) (fun _=>?_)<;>cbv)|(refine Need.mk ?_ ?_;rotate_left;cbv)|(refine R0 ?_;cbv))
   all_goals first
    | exact⟨.refl _,trivial⟩
    | trace_state
 | true =>
  obtain⟨x,hx,hxk⟩:=posK_there hs hk
  have hlt:=(List.getElem?_eq_some_iff.1 hx).1
  rw[hg,hk] at hat
  cases hh:c.has with
  | false =>
   have hr:O.o List.eraseIdx l (O.o (posKZ Ndoc.key) l c.key).toNat=O.o (foldD l) c:=by rw[O.h List.eraseIdx,hp,O.h (foldD l),foldD_del hh hk];rfl
   have hdel:=fun j hj=>hdel j hj hlt
   rw[hr] at hdel
   obtain⟨F,eF⟩:∃ F,F=O.o (foldD l) c:=⟨_,rfl⟩
   rw[← eF] at hdel ⊢
   clear hins hcl hr hg hd eF hx hxk
   obtain⟨cp,ck,ch,cd⟩:=c
   replace hh:ch=false:=hh
   subst hh
   refine go (fn:=Proofs.Tryz.f147) (n:=48) (rv:=[ResultVar.tmp 4]) rfl (by decide) rfl (by decide +kernel) rfl rfl (by simp) fun F L C=>?_
   cbv
   (repeat' first|(refine Na ?_ fun _ _=>?_;(focus lia);cbv)|(refine CallThen.mk _ _ (C.fn (how)) ?_;cbv)|(refine CallThen.mk _ _ (C.fn (hat)) ?_;cbv)|(refine CallThen.mk _ _ (C.fn (hdel _ (by assumption))) ?_;cbv)|(refine Nl fun _ _ hq=>?_;(try simp only [lenS] at hq);cbv)|(refine Nm fun _ _=>?_;cbv)|(refine Br.t ?_ ?_;(focus first|assumption|lia);cbv)|(refine Br.f ?_ ?_;(focus first|assumption|lia);cbv)|(refine Br.mk (fun _=>?_) (fun _=>?_)<;>cbv)|(refine Need.mk ?_ ?_;rotate_left;cbv)|(refine R0 ?_;cbv))
   all_goals first
    | exact⟨.refl _,trivial⟩
    | (clear how hat hdel;lia)
    | trace_state
  | true =>
   have hr:O.o (Nms.enc O) (O.o (foldD l) c)=(O.o (Nms.enc O) l).set (posK Ndoc.key l c.key) [.str c.key,.sl false 0 false 6 (O.o Doc.enc c.doc)]:=by
    rw[O.h (foldD l),foldD_set hh hk,nms_setK O]
   obtain⟨F,eF⟩:∃ F,F=O.o (Nms.enc O) (O.o (foldD l) c):=⟨_,rfl⟩
   rw[← eF] at hr ⊢
   rw[← hxk] at hr
   obtain⟨i,hi⟩:∃ i,i=posK Ndoc.key l c.key:=⟨_,rfl⟩
   rw[hxk] at hr
   rw[← hi] at hx hp hr hlt
   rw[← hxk] at hr
   obtain⟨w,hw⟩:∃ w,w=O.o (posKZ Ndoc.key) l c.key:=⟨_,rfl⟩
   rw[← hw] at hp hat
   clear hins hdel hg hd eF hi hw
   obtain⟨cp,ck,ch,cd⟩:=c
   replace hh:ch=true:=hh
   subst hh
   obtain⟨xk,xd⟩:=x
   refine go (fn:=Proofs.Tryz.f147) (n:=48) (rv:=[ResultVar.tmp 4]) rfl (by decide) rfl (by decide +kernel) rfl rfl (by simp) fun F L C=>?_
   cbv
   (repeat' first|(refine Na ?_ fun _ _=>?_;(focus lia);cbv)|(refine CallThen.mk _ _ (C.fn (how)) ?_;cbv)|(refine CallThen.mk _ _ (C.fn (hat)) ?_;cbv)|(refine CallThen.mk _ _ (C.fn (hcl)) ?_;cbv)|(refine Ex.known O (Ndoc.enc O) rfl hx ?_ ?_;(focus lia);cbv)|(refine RetThen.mk [] [640] ?_;cbv)|(refine Nl fun _ _ hq=>?_;(try simp only [lenS] at hq);cbv)|(refine Nm fun _ _=>?_;cbv)|(refine Br.t ?_ ?_;(focus first|assumption|lia);cbv)|(refine Br.f ?_ ?_;(focus first|assumption|lia);cbv)|(refine Br.mk (fun _=>?_) (fun _=>?_)<;>cbv)|(refine Need.mk ?_ ?_;rotate_left;cbv)|(refine R0 ?_;cbv))
   all_goals try(clear how hat hcl hx hr;lia)
   rename_i i2 e2 R eR hqq R2 eR2
   refine⟨.of_eq ?_,trivial⟩
   have ei:i2=i:=by clear how hat hcl hx hr eR eR2;lia
   rw[eR2,eR,ei]
   exact hr
end Go.Sym
