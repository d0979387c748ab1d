/- The reader's words and signs. -/
import Derived.Test.YtfdbdalnpdgfmaaGreatDoorK11
import Derived.Test.YtfdbdalnpdgfmaaGreatDoorK5
set_option linter.all false
set_option linter.unusedVariables false
set_option linter.unusedSimpArgs false
namespace Go.Sym
open Go Go.Proofs.Tryz
set_option maxRecDepth 100000
theorem Named.at' {α:Type} {x:Unit→α} {K:α→Prop} (v:α) (h:v=x ()) (k:K v):Named α x K:=.mk fun n e=>by rw[e,← h];exact k
def nextB (c:UInt8) (s:List UInt8):Bool:=match s with
 | d::_=>decide (d=c)
 | []=>false
def nextR (c:UInt8) (s:List UInt8):List UInt8:=match s with
 | d::r=>if d=c then r else s
 | []=>[]
theorem next_no (O:Opq) (bad:Bool) (nest cv:Int):Fn prog 61 [.ptr 0 0,.int .u8 cv] [.box [.str ByteArray.empty,.bool bad,.int .i64 nest]] [.bool false] [.box [.str ByteArray.empty,.bool bad,.int .i64 nest]]:=by
 refine go (fn:=Proofs.Tryz.f61) (n:=25) (rv:=[ResultVar.tmp 4]) rfl (by decide) rfl (by decide +kernel) rfl rfl (by simp) fun F L C=>?_
 cbv
 (repeat' first|(refine Na ?_ fun _ _=>?_;(focus lia);cbv)|(refine Nl fun _ _ hq=>?_;(try simp only [lenS] at hq);cbv)|(refine Nm fun _ _=>?_;cbv)|(refine Br.t ?_ ?_;(focus first|assumption|lia);cbv)|(refine Br.f ?_ ?_;(focus first|assumption|lia);cbv)|(refine Br.mk (fun _=>?_) (fun _=>?_)<;>cbv)|(refine Need.mk ?_ ?_;rotate_left;cbv)|(refine R0 ?_;cbv))
 all_goals first
  | exact⟨rfl,rfl,rfl,rfl,trivial⟩
  | (exfalso;simp_all;done)
  | trace_state
theorem next_fn (O:Opq) (s:List UInt8) (bad:Bool) (nest:Int) (c:UInt8) (cv:Int) (hc:cv=c.toNat) (hl:s.length≤1000000) :
  Fn prog 61 [.ptr 0 0,.int .u8 cv] [.box [.str (O.o ofL s),.bool bad,.int .i64 nest]] [.bool (O.o (nextB c) s)] [.box [.str (O.o ofL (O.o (nextR c) s)),.bool bad,.int .i64 nest]]:=by
 cases s with
 | nil =>
  have h:=next_no O bad nest cv
  have e1:O.o ofL []=ByteArray.empty:=by rw[O.h];rfl
  rw[show O.o (nextB c) []=false by rw[O.h];rfl,show O.o (nextR c) []=[] by rw[O.h];rfl,e1]
  exact h
 | cons d r =>
  obtain⟨S,hS⟩:∃ S,S=O.o ofL (d::r):=⟨_,rfl⟩
  have hne:¬ S=ByteArray.empty:=by rw[hS,O.h,ofL_emp];simp
  have hsz:S.size=r.length+1:=by rw[hS,O.h,size_ofL];rfl
  obtain⟨dv,hdv⟩:∃ v:Int,v=d.toNat:=⟨_,rfl⟩
  have hb:dv=byteAt S 0:=by rw[hS,O.h,show(0:Int)=((0:Nat):Int) from rfl,byteAt_ofL (d::r) 0,hdv];rfl
  obtain⟨R,hR⟩:∃ R,R=O.o ofL r:=⟨_,rfl⟩
  have hx:R=S.extract 1 S.size:=by
   rw[hR];symm
   rw[hsz,hS];simp only [O.h];rw[extract_ofL];simp
  have h1:dv=cv→O.o (nextB c) (d::r)=true∧O.o (nextR c) (d::r)=r:=fun e=>by
   have:d=c:=UInt8.toNat_inj.1 (by omega)
   simp only [O.h,nextB,nextR];rw[if_pos this];simp [this]
  have h2:¬ dv=cv→O.o (nextB c) (d::r)=false∧O.o (nextR c) (d::r)=d::r:=fun e=>by
   have:¬ d=c:=fun k=>e (by rw[hdv,hc,k])
   simp only [O.h,nextB,nextR];rw[if_neg this];simp [this]
  by_cases e:dv=cv
  ·obtain⟨q1,q2⟩:=h1 e
   rw[q1,q2,← hR,← hS]
   clear h1 h2 q1 q2 hR hS hc hdv
   refine go (fn:=Proofs.Tryz.f61) (n:=25) (rv:=[ResultVar.tmp 4]) rfl (by decide) rfl (by decide +kernel) rfl rfl (by simp) fun F L C=>?_
   cbv
   (repeat' first|(refine Named.at' dv hb ?_;cbv)|(refine Na ?_ fun _ _=>?_;(focus lia);cbv)|(refine Named.at' R hx ?_;cbv)|(refine Nl fun _ _ hq=>?_;(try simp only [lenS] at hq);cbv)|(refine Nm fun _ _=>?_;cbv)|(refine Br.t ?_ ?_;(focus first|assumption|lia);cbv)|(refine Br.f ?_ ?_;(focus first|assumption|lia);cbv)|(refine Br.mk (fun _=>?_) (fun _=>?_)<;>cbv)|(refine Need.mk ?_ ?_;rotate_left;cbv)|(refine R0 ?_;cbv))
   all_goals first
    | (clear hb hx;lia)
    | exact⟨rfl,rfl,rfl,rfl,trivial⟩
    | trace_state
  ·obtain⟨q1,q2⟩:=h2 e
   rw[q1,q2,← hS]
   clear h1 h2 q1 q2 hx hR hS hc hdv
   refine go (fn:=Proofs.Tryz.f61) (n:=25) (rv:=[ResultVar.tmp 4]) rfl (by decide) rfl (by decide +kernel) rfl rfl (by simp) fun F L C=>?_
   cbv
   (repeat' first|(refine Named.at' dv hb ?_;cbv)|(refine Na ?_ fun _ _=>?_;(focus lia);cbv)|(refine Nl fun _ _ hq=>?_;(try simp only [lenS] at hq);cbv)|(refine Nm fun _ _=>?_;cbv)|(refine Br.t ?_ ?_;(focus first|assumption|lia);cbv)|(refine Br.f ?_ ?_;(focus first|assumption|lia);cbv)|(refine Br.mk (fun _=>?_) (fun _=>?_)<;>cbv)|(refine Need.mk ?_ ?_;rotate_left;cbv)|(refine R0 ?_;cbv))
   all_goals first
    | (clear hb;lia)
    | exact⟨rfl,rfl,rfl,rfl,trivial⟩
    | trace_state
theorem word_fn (O : Opq) (s : List UInt8) (bad : Bool) (nest : Int) (hl : s.length ≤ 1000000) :
    Fn prog 113 [.ptr 0 0] [.box [.str (O.o ofL s),.bool bad,.int .i64 nest]] [.str (O.o ofL (O.o headW s))] [.box [.str (O.o ofL (O.o restW s)),.bool bad,.int .i64 nest]]:=by
  have k:=trimL_fn O s
  obtain⟨S,hS⟩:∃ S,S=O.o ofL s:=⟨_,rfl⟩
  have hsz:S.size=s.length:=by rw[hS,O.h,size_ofL]
  obtain⟨R,hR⟩:∃ S,S=O.o ofL (O.o restW s):=⟨_,rfl⟩
  have hrz:R.size=(restW s).length:=by rw[hR];simp only [O.h];rw[size_ofL]
  have hwl:=word_len s
  obtain⟨H,hH⟩:∃ S,S=O.o ofL (O.o headW s):=⟨_,rfl⟩
  obtain⟨m,hm⟩:∃ m,m=(headW s).length:=⟨_,rfl⟩
  obtain⟨q,hq⟩:∃ m,m=(restW s).length:=⟨_,rfl⟩
  rw[← hm,← hq] at hwl
  rw[← hq] at hrz
  have h1:S.extract 0 m=H:=by rw[hS,hH,hm];simp only [O.h];rw[extract_ofL,word_take];rfl
  have h2:S.extract m S.size=R:=by rw[hS,hR,hm];simp only [O.h];rw[extract_ofL,size_ofL,List.take_length,word_drop]
  rw[← hS,← hR] at k
  rw[← hS,← hR,← hH]
  clear hS hR hH hm hq
  refine go (fn:=Proofs.Tryz.f113) (n:=32) (rv:=[ResultVar.tmp 2]) rfl (by decide) rfl (by decide +kernel) rfl rfl (by simp) fun F L C=>?_
  cbv
  (repeat' first|(refine Na ?_ fun _ _=>?_;(focus lia);cbv)|(refine CallThen.mk _ _ (C.fn (k)) ?_;cbv)|(refine Nl fun _ _ hq=>?_;(try simp only [lenS] at hq);cbv)|(refine Nm fun _ _=>?_;cbv)|(refine Br.t ?_ ?_;(focus first|assumption|lia);cbv)|(refine Br.f ?_ ?_;(focus first|assumption|lia);cbv)|(refine Br.mk (fun _=>?_) (fun _=>?_)<;>cbv)|(refine Need.mk ?_ ?_;rotate_left;cbv)|(refine R0 ?_;cbv))
  all_goals first
    | (rename_i a ea b eb x ex c ec d ed
       have hxm:x.toNat=m:=by clear h1 h2 k ec ed;lia
       rw[hxm] at ec ed
       exact⟨by rw[ed,h2],by rw[ec];exact h1.symm,trivial⟩)
    | (clear h1 h2 k;lia)
    | trace_state
def names5:List ByteArray:=[⟨#[110,111,114,109]⟩,⟨#[99,111,110,106]⟩,⟨#[116,117,114,110]⟩,⟨#[108,111,119]⟩,⟨#[104,101,97,100]⟩]
def inS (v:ByteArray) (l:List ByteArray):Bool:=l.any fun x=>decide (v=x)
def idxS (v:ByteArray) (l:List ByteArray):Int:=if inS v l=true then(l.findIdx fun x=>decide (v=x):Nat) else -1
theorem idxS_at {v:ByteArray} {l:List ByteArray} {k:Nat} (hk:l[k]?=some v) (h:∀ (j:Nat) x,j<k→l[j]?=some x→v≠x):idxS v l=k:=by
 have hlt:=(List.getElem?_eq_some_iff.1 hk).1
 rw[idxS,if_pos (show inS v l=true from List.any_eq_true.2 ⟨v,List.mem_of_getElem? hk,by simp⟩)]
 refine congrArg _ ((List.findIdx_eq hlt).2 ⟨?_,fun j hj=>?_⟩)
 ·rw[(List.getElem?_eq_some_iff.1 hk).2];simp
 ·have:=h j l[j] (by omega) (by simp)
  simpa using this
theorem idxS_no {v:ByteArray} {l:List ByteArray} (h:∀ (j:Nat) x,j<l.length→l[j]?=some x→v≠x):idxS v l=-1:=by
 rw[idxS,if_neg]
 simp only [inS,List.any_eq_true,not_exists,not_and]
 intro x hx
 obtain⟨j,hj,rfl⟩:=List.getElem_of_mem hx
 have:=h j l[j] hj (by simp)
 simpa using this
theorem idxS_ge (v:ByteArray) (l:List ByteArray):(0≤idxS v l ↔ inS v l=true):=by
 rw[idxS]
 split
 ·rename_i h;simp [h]
 ·rename_i h;simp [h]
def strW (s:ByteArray):List PV:=[.str s]
theorem Strs_eq:Strs=List.map strW:=rfl
theorem indexS_fn (O:Opq) (l:List ByteArray) (v:ByteArray) (hl:l.length≤1000):Fn prog 143 [.sl true 0 false 1 (O.o Strs l),.str v] [] [.int .i64 (O.o (idxS v) l)] []:=by
 have hlen:(O.o Strs l).length=l.length:=by rw[O.h,Strs_len]
 obtain⟨z,hz⟩:∃ z:Nat,z=0:=⟨_,rfl⟩
 obtain⟨N,hN⟩:∃ N:Nat,N=l.length:=⟨_,rfl⟩
 refine go (fn:=Proofs.Tryz.f143) (n:=17) (rv:=[ResultVar.tmp 4]) rfl (by decide) rfl (by decide +kernel) rfl rfl (by simp) fun F L C=>?_
 cbv
 (repeat' first|(refine Na ?_ fun _ _=>?_;(focus lia);cbv)|(refine Nl fun _ _ hq=>?_;(try simp only [lenS] at hq);cbv)|(refine Nm fun _ _=>?_;cbv)|(refine Br.t ?_ ?_;(focus first|assumption|lia);cbv)|(refine Br.f ?_ ?_;(focus first|assumption|lia);cbv)|(refine Br.mk (fun _=>?_) (fun _=>?_)<;>cbv)|(refine Need.mk ?_ ?_;rotate_left;cbv)|(refine R0 ?_;cbv))
 refine LoopThen.mk (C.loopAt (ι:=Nat) [(4,5),(8,18)] (fun k=>[(4,.int .i64 0),(8,.int .i64 k)]) (fun _=>[])
  (fun k=>k≤l.length∧∀ (j:Nat) x,j<k→l[j]?=some x→v≠x) (fun k=>N-k) (by decide +kernel) (Start.mk z [] [] ⟨by omega,fun j x hj=>by omega⟩ (by cbv;(repeat' apply And.intro)<;>first|exact True.intro|exact WkR.refl _|rfl|lia)) ?_)
 intro k g
 cbv
 have g1:k≤l.length:=g.1
 have g2:=g.2
 clear g
 by_cases hk:k<l.length
 ·obtain⟨x,hx⟩:∃ x,l[k]?=some x:=⟨l[k],by simp [hk]⟩
  have hyes:v=x→O.o (idxS v) l=k:=fun e=>by rw[O.h];exact idxS_at (by rw[e];exact hx) g2
  have hst:v≠x→∀ (j:Nat) y,j<k+1→l[j]?=some y→v≠y:=fun h j y hj hy=>by
   by_cases ej:j=k
   ·subst ej;rw[hx] at hy;cases hy;exact h
   ·exact g2 j y (by omega) hy
  obtain⟨Q,eQ⟩:∃ Q,Q=O.o (idxS v) l:=⟨_,rfl⟩
  rw[← eQ] at hyes ⊢
  clear g2 eQ
  (repeat' first|(refine Na ?_ fun _ _=>?_;(focus lia);cbv)|(refine Ex.known O strW rfl hx ?_ ?_;(focus lia);cbv)|(refine Back.up [] [] ?_ ?_ fun _ _=>?_;rotate_left 2;cbv;refine And.intro ?_ ?_)|(refine Nl fun _ _ hq=>?_;(try simp only [lenS] at hq);cbv)|(refine Nm fun _ _=>?_;cbv)|(refine Br.t ?_ ?_;(focus first|assumption|lia);cbv)|(refine Br.f ?_ ?_;(focus first|assumption|lia);cbv)|(refine Br.mk (fun _=>?_) (fun _=>?_)<;>cbv)|(refine Need.mk ?_ ?_;rotate_left;cbv)|(refine R0 ?_;cbv))
  all_goals(repeat' apply And.intro)
  all_goals try first
   | exact True.intro
   | exact WkR.refl _
   | (clear hx hst hyes;lia)
  all_goals first
   | exact hst (by assumption)
   | (rw[hyes (by assumption)];clear hx hst hyes;lia)
   | trace_state
 ·have hno:O.o (idxS v) l=-1:=by rw[O.h];exact idxS_no fun j x hj hx=>g2 j x (by omega) hx
  rw[hno]
  clear g2
  (repeat' first|(refine Na ?_ fun _ _=>?_;(focus lia);cbv)|(refine Nl fun _ _ hq=>?_;(try simp only [lenS] at hq);cbv)|(refine Nm fun _ _=>?_;cbv)|(refine Br.t ?_ ?_;(focus first|assumption|lia);cbv)|(refine Br.f ?_ ?_;(focus first|assumption|lia);cbv)|(refine Br.mk (fun _=>?_) (fun _=>?_)<;>cbv)|(refine Need.mk ?_ ?_;rotate_left;cbv)|(refine R0 ?_;cbv))
  all_goals first
   | exact⟨rfl,trivial⟩
   | (exfalso;lia)
   | trace_state
theorem containsS_fn (O:Opq) (l:List ByteArray) (v:ByteArray) (hl:l.length≤1000):Fn prog 132 [.sl true 0 false 1 (O.o Strs l),.str v] [] [.bool (O.o (inS v) l)] []:=by
 have k:=indexS_fn O l v hl
 have hi:(0≤O.o (idxS v) l ↔ O.o (inS v) l=true):=by rw[O.h,O.h];exact idxS_ge v l
 obtain⟨Q,eQ⟩:∃ Q,Q=O.o (idxS v) l:=⟨_,rfl⟩
 rw[← eQ] at k hi
 obtain⟨B,eB⟩:∃ Q,Q=O.o (inS v) l:=⟨_,rfl⟩
 rw[← eB] at hi ⊢
 clear eQ eB
 cases B
 all_goals
  refine go (fn:=Proofs.Tryz.f132) (n:=7) (rv:=[ResultVar.tmp 4]) rfl (by decide) rfl (by decide +kernel) rfl rfl (by simp) fun F L C=>?_
  cbv
  (repeat' first|(refine Na ?_ fun _ _=>?_;(focus lia);cbv)|(refine CallThen.mk _ _ (C.fn (k)) ?_;cbv)|(refine Nl fun _ _ hq=>?_;(try simp only [lenS] at hq);cbv)|(refine Nm fun _ _=>?_;cbv)|(refine Br.t ?_ ?_;(focus first|assumption|lia);cbv)|(refine Br.f ?_ ?_;(focus first|assumption|lia);cbv)|(refine Br.mk (fun _=>?_) (fun _=>?_)<;>cbv)|(refine Need.mk ?_ ?_;rotate_left;cbv)|(refine R0 ?_;cbv))
  all_goals first
   | exact⟨rfl,trivial⟩
   | (exfalso;simp at hi;clear k;lia)
   | trace_state
theorem nameL_in (w:List UInt8):inS (ofL w) names5=nameL w:=by
 rw[Bool.eq_iff_iff]
 simp only [inS,names5,List.any_cons,List.any_nil,Bool.or_false,Bool.or_eq_true,decide_eq_true_eq,nameL,beq_iff_eq]
 have e:∀ l:List UInt8,(ofL w=⟨l.toArray⟩ ↔ w=l):=fun l=>ofL_inj (l:=w) (m:=l)
 rw[show(⟨#[110,111,114,109]⟩:ByteArray)=⟨[110,111,114,109].toArray⟩ from rfl,show(⟨#[99,111,110,106]⟩:ByteArray)=⟨[99,111,110,106].toArray⟩ from rfl,show(⟨#[116,117,114,110]⟩:ByteArray)=⟨[116,117,114,110].toArray⟩ from rfl,show(⟨#[108,111,119]⟩:ByteArray)=⟨[108,111,119].toArray⟩ from rfl,show(⟨#[104,101,97,100]⟩:ByteArray)=⟨[104,101,97,100].toArray⟩ from rfl,e,e,e,e,e]
 simp only [or_assoc]
theorem name_fn (O:Opq) (w:List UInt8):Fn prog 115 [.str (O.o ofL w)] [] [.bool (O.o nameL w)] []:=by
 have k:=containsS_fn O names5 (O.o ofL w) (by decide)
 rw[show O.o (inS (O.o ofL w)) names5=O.o nameL w by simp only [O.h];exact nameL_in w,show O.o Strs names5=[[.str ⟨#[110,111,114,109]⟩],[.str ⟨#[99,111,110,106]⟩],[.str ⟨#[116,117,114,110]⟩],[.str ⟨#[108,111,119]⟩],[.str ⟨#[104,101,97,100]⟩]] by rw[O.h];rfl] at k
 refine go (fn:=Proofs.Tryz.f115) (n:=5) (rv:=[ResultVar.tmp 2]) rfl (by decide) rfl (by decide +kernel) rfl rfl (by simp) fun F L C=>?_
 cbv
 (repeat' first|(refine Na ?_ fun _ _=>?_;(focus lia);cbv)|(refine CallThen.mk _ _ (C.fn (Fn.wkA (k) ?_)) ?_;(focus((repeat' apply WkAL.cons)<;>first|exact WkAL.nil|exact WkA.refl _|exact WkA.lend rfl|exact WkA.bor rfl (WkR.refl _)|exact WkA.wk (Wk.nil _ _)|exact WkA.wk (Wk.sl' rfl rfl (WkR.refl _))|(refine WkA.agg' ?_;((repeat' apply WkAL.cons)<;>first|exact WkAL.nil|exact WkA.refl _|exact WkA.lend rfl|exact WkA.bor rfl (WkR.refl _)|exact WkA.wk (Wk.nil _ _)|exact WkA.wk (Wk.sl' rfl rfl (WkR.refl _))|(refine WkA.agg' ?_;((repeat' apply WkAL.cons)<;>first|exact WkAL.nil|exact WkA.refl _|exact WkA.lend rfl|exact WkA.bor rfl (WkR.refl _)|exact WkA.wk (Wk.nil _ _)|exact WkA.wk (Wk.sl' rfl rfl (WkR.refl _))))))));cbv)|(refine Nl fun _ _ hq=>?_;(try simp only [lenS] at hq);cbv)|(refine Nm fun _ _=>?_;cbv)|(refine Br.t ?_ ?_;(focus first|assumption|lia);cbv)|(refine Br.f ?_ ?_;(focus first|assumption|lia);cbv)|(refine Br.mk (fun _=>?_) (fun _=>?_)<;>cbv)|(refine Need.mk ?_ ?_;rotate_left;cbv)|(refine R0 ?_;cbv))
theorem number_fn (O:Opq) (w:List UInt8) (hw:w.length≤1000000):Fn prog 116 [.str (O.o ofL w)] [] [.bool (O.o plainL w)] []:=by
 have k:=trimD_fn O (O.o ofL w) (by rw[O.h,size_ofL];omega)
 obtain⟨T,eT⟩:∃ T,T=O.o trimW (O.o ofL w) digitB.data.toList:=⟨_,rfl⟩
 have hT:T=ByteArray.empty ↔ O.o plainL w=true:=by rw[eT];simp only [O.h];exact trim_digits w
 rw[← eT] at k
 obtain⟨B,eB⟩:∃ B,B=O.o plainL w:=⟨_,rfl⟩
 rw[← eB] at hT ⊢
 clear eT eB
 cases B
 all_goals
  refine go (fn:=Proofs.Tryz.f116) (n:=5) (rv:=[ResultVar.tmp 2]) rfl (by decide) rfl (by decide +kernel) rfl rfl (by simp) fun F L C=>?_
  cbv
  (repeat' first|(refine Na ?_ fun _ _=>?_;(focus lia);cbv)|(refine CallThen.mk _ _ (C.fn (k)) ?_;cbv)|(refine Nl fun _ _ hq=>?_;(try simp only [lenS] at hq);cbv)|(refine Nm fun _ _=>?_;cbv)|(refine Br.t ?_ ?_;(focus first|assumption|lia);cbv)|(refine Br.f ?_ ?_;(focus first|assumption|lia);cbv)|(refine Br.mk (fun _=>?_) (fun _=>?_)<;>cbv)|(refine Need.mk ?_ ?_;rotate_left;cbv)|(refine R0 ?_;cbv))
  all_goals first
   | exact⟨rfl,trivial⟩
   | (exfalso;simp at hT;exact hT (by assumption))
   | (exfalso;simp at hT;contradiction)
   | trace_state
theorem isPath_L (w:List UInt8):isPath (ofL w)=pathL w:=by
 simp only [isPath,pathL,toL_ofL,size_ofL]
end Go.Sym
