/- The reader's words and signs. -/
import Derived.Test.YtjlefaabcalkkaaGreatDoorK4
import Derived.Test.YtjlefaabcalkkaaGreatDoorK6
set_option linter.all false
set_option linter.unusedVariables false
set_option linter.unusedSimpArgs false
namespace Go.Sym
open Go Go.Proofs.Tryz
set_option maxRecDepth 100000
theorem Named.at' {α:Type} {x:Unit→α} {K:α→Prop} (v:α) (h:v=x ()) (k:K v):Named α x K:=.mk fun n e=>by rw[e,← h];exact k
def nextB (c:UInt8) (s:List UInt8):Bool:=match s with
 | d::_=>decide (d=c)
 | []=>false
def nextR (c:UInt8) (s:List UInt8):List UInt8:=match s with
 | d::r=>if d=c then r else s
 | []=>[]
theorem next_no (O:Opq) (bad:Bool) (nest cv:Int):Fn prog 105 [.ptr 0 0,.int .u8 cv] [.box [.str ByteArray.empty,.bool bad,.int .i64 nest]] [.bool false] [.box [.str ByteArray.empty,.bool bad,.int .i64 nest]]:=by
 refine go (fn:=Proofs.Tryz.f105) (n:=25) (rv:=[ResultVar.tmp 4]) rfl (by decide) rfl (by decide +kernel) rfl rfl (by simp) fun F L C=>?_
 cbv
 (repeat' first|(refine Br.t ?_ ?_;(focus first|assumption|lia);cbv)|(refine R0 ?_;cbv))
 all_goals first
  | exact⟨rfl,rfl,rfl,rfl,trivial⟩
  | (exfalso;simp_all;done)
  | trace_state
theorem next_fn (O:Opq) (s:List UInt8) (bad:Bool) (nest:Int) (c:UInt8) (cv:Int) (hc:cv=c.toNat) (hl:s.length≤1000000) :
  Fn prog 105 [.ptr 0 0,.int .u8 cv] [.box [.str (O.o ofL s),.bool bad,.int .i64 nest]] [.bool (O.o (nextB c) s)] [.box [.str (O.o ofL (O.o (nextR c) s)),.bool bad,.int .i64 nest]]:=by
 cases s with
 | nil =>
  have h:=next_no O bad nest cv
  have e1:O.o ofL []=ByteArray.empty:=by rw[O.h];rfl
  rw[show O.o (nextB c) []=false by rw[O.h];rfl,show O.o (nextR c) []=[] by rw[O.h];rfl,e1]
  exact h
 | cons d r =>
  obtain⟨S,hS⟩:∃ S,S=O.o ofL (d::r):=⟨_,rfl⟩
  have hne:¬ S=ByteArray.empty:=by rw[hS,O.h,ofL_emp];simp
  have hsz:S.size=r.length+1:=by rw[hS,O.h,size_ofL];rfl
  obtain⟨dv,hdv⟩:∃ v:Int,v=d.toNat:=⟨_,rfl⟩
  have hb:dv=byteAt S 0:=by rw[hS,O.h,show(0:Int)=((0:Nat):Int) from rfl,byteAt_ofL (d::r) 0,hdv];rfl
  obtain⟨R,hR⟩:∃ R,R=O.o ofL r:=⟨_,rfl⟩
  have hx:R=S.extract 1 S.size:=by
   rw[hR];symm
   rw[hsz,hS];simp only [O.h];rw[extract_ofL];simp
  have h1:dv=cv→O.o (nextB c) (d::r)=true∧O.o (nextR c) (d::r)=r:=fun e=>by
   have:d=c:=UInt8.toNat_inj.1 (by omega)
   simp only [O.h,nextB,nextR];rw[if_pos this];simp [this]
  have h2:¬ dv=cv→O.o (nextB c) (d::r)=false∧O.o (nextR c) (d::r)=d::r:=fun e=>by
   have:¬ d=c:=fun k=>e (by rw[hdv,hc,k])
   simp only [O.h,nextB,nextR];rw[if_neg this];simp [this]
  by_cases e:dv=cv
  ·obtain⟨q1,q2⟩:=h1 e
   rw[q1,q2,← hR,← hS]
   clear h1 h2 q1 q2 hR hS hc hdv
   refine go (fn:=Proofs.Tryz.f105) (n:=25) (rv:=[ResultVar.tmp 4]) rfl (by decide) rfl (by decide +kernel) rfl rfl (by simp) fun F L C=>?_
   cbv
   (repeat' first|(refine Named.at' dv hb ?_;cbv)|(refine Named.at' R hx ?_;cbv)|(refine Br.t ?_ ?_;(focus first|assumption|lia);cbv)|(refine Br.f ?_ ?_;(focus first|assumption|lia);cbv)|(refine Need.mk ?_ ?_;rotate_left;cbv)|(refine R0 ?_;cbv))
   all_goals first
    | (clear hb hx;lia)
    | exact⟨rfl,rfl,rfl,rfl,trivial⟩
    | trace_state
  ·obtain⟨q1,q2⟩:=h2 e
   rw[q1,q2,← hS]
   clear h1 h2 q1 q2 hx hR hS hc hdv
   refine go (fn:=Proofs.Tryz.f105) (n:=25) (rv:=[ResultVar.tmp 4]) rfl (by decide) rfl (by decide +kernel) rfl rfl (by simp) fun F L C=>?_
   cbv
   (repeat' first|(refine Named.at' dv hb ?_;cbv)|(refine Br.f ?_ ?_;(focus first|assumption|lia);cbv)|(refine Need.mk ?_ ?_;rotate_left;cbv)|(refine R0 ?_;cbv))
   all_goals first
    | (clear hb;lia)
    | exact⟨rfl,rfl,rfl,rfl,trivial⟩
    | trace_state
theorem word_fn (O : Opq) (s : List UInt8) (bad : Bool) (nest : Int) (hl : s.length ≤ 1000000) :
    Fn prog 154 [.ptr 0 0] [.box [.str (O.o ofL s),.bool bad,.int .i64 nest]] [.str (O.o ofL (O.o headW s))] [.box [.str (O.o ofL (O.o restW s)),.bool bad,.int .i64 nest]]:=by
  have k:=trimL_fn O s
  obtain⟨S,hS⟩:∃ S,S=O.o ofL s:=⟨_,rfl⟩
  have hsz:S.size=s.length:=by rw[hS,O.h,size_ofL]
  obtain⟨R,hR⟩:∃ S,S=O.o ofL (O.o restW s):=⟨_,rfl⟩
  have hrz:R.size=(restW s).length:=by rw[hR];simp only [O.h];rw[size_ofL]
  have hwl:=word_len s
  obtain⟨H,hH⟩:∃ S,S=O.o ofL (O.o headW s):=⟨_,rfl⟩
  obtain⟨m,hm⟩:∃ m,m=(headW s).length:=⟨_,rfl⟩
  obtain⟨q,hq⟩:∃ m,m=(restW s).length:=⟨_,rfl⟩
  rw[← hm,← hq] at hwl
  rw[← hq] at hrz
  have h1:S.extract 0 m=H:=by rw[hS,hH,hm];simp only [O.h];rw[extract_ofL,word_take];rfl
  have h2:S.extract m S.size=R:=by rw[hS,hR,hm];simp only [O.h];rw[extract_ofL,size_ofL,List.take_length,word_drop]
  rw[← hS,← hR] at k
  rw[← hS,← hR,← hH]
  clear hS hR hH hm hq
  refine go (fn:=Proofs.Tryz.f154) (n:=32) (rv:=[ResultVar.tmp 2]) rfl (by decide) rfl (by decide +kernel) rfl rfl (by simp) fun F L C=>?_
  cbv
  (repeat' first|(refine Na ?_ fun _ _=>?_;(focus lia);cbv)|(refine CallThen.mk _ _ (C.fn (k)) ?_;cbv)|(refine Nm fun _ _=>?_;cbv)|(refine Need.mk ?_ ?_;rotate_left;cbv)|(refine R0 ?_;cbv))
  all_goals first
    | (rename_i a ea b eb x ex c ec d ed
       have hxm:x.toNat=m:=by clear h1 h2 k ec ed;lia
       rw[hxm] at ec ed
       exact⟨by rw[ed,h2],by rw[ec];exact h1.symm,trivial⟩)
    | (clear h1 h2 k;lia)
    | trace_state
def names5:List ByteArray:=[⟨#[110,111,114,109]⟩,⟨#[99,111,110,106]⟩,⟨#[116,117,114,110]⟩,⟨#[108,111,119]⟩,⟨#[104,101,97,100]⟩]
def inS (v:ByteArray) (l:List ByteArray):Bool:=l.any fun x=>decide (v=x)
def idxS (v:ByteArray) (l:List ByteArray):Int:=if inS v l=true then(l.findIdx fun x=>decide (v=x):Nat) else -1
theorem idxS_at {v:ByteArray} {l:List ByteArray} {k:Nat} (hk:l[k]?=some v) (h:∀ (j:Nat) x,j<k→l[j]?=some x→v≠x):idxS v l=k:=by
 have hlt:=(List.getElem?_eq_some_iff.1 hk).1
 rw[idxS,if_pos (show inS v l=true from List.any_eq_true.2 ⟨v,List.mem_of_getElem? hk,by simp⟩)]
 refine congrArg _ ((List.findIdx_eq hlt).2 ⟨?_,fun j hj=>?_⟩)
 ·rw[(List.getElem?_eq_some_iff.1 hk).2];simp
 ·have:=h j l[j] (by omega) (by simp)
  simpa using this
theorem idxS_no {v:ByteArray} {l:List ByteArray} (h:∀ (j:Nat) x,j<l.length→l[j]?=some x→v≠x):idxS v l=-1:=by
 rw[idxS,if_neg]
 simp only [inS,List.any_eq_true,not_exists,not_and]
 intro x hx
 obtain⟨j,hj,rfl⟩:=List.getElem_of_mem hx
 have:=h j l[j] hj (by simp)
 simpa using this
theorem idxS_ge (v:ByteArray) (l:List ByteArray):(0≤idxS v l ↔ inS v l=true):=by
 rw[idxS]
 split
 ·rename_i h;simp [h]
 ·rename_i h;simp [h]
def strW (s:ByteArray):List PV:=[.str s]
theorem Strs_eq:Strs=List.map strW:=rfl
theorem indexS_fn (O:Opq) (l:List ByteArray) (v:ByteArray) (hl:l.length≤1000):Fn prog 192 [.sl true 0 false 1 (O.o Strs l),.str v] [] [.int .i64 (O.o (idxS v) l)] []:=by
 have hlen:(O.o Strs l).length=l.length:=by rw[O.h,Strs_len]
 obtain⟨z,hz⟩:∃ z:Nat,z=0:=⟨_,rfl⟩
 obtain⟨N,hN⟩:∃ N:Nat,N=l.length:=⟨_,rfl⟩
 refine go (fn:=Proofs.Tryz.f192) (n:=17) (rv:=[ResultVar.tmp 4]) rfl (by decide) rfl (by decide +kernel) rfl rfl (by simp) fun F L C=>?_
 cbv
 (repeat' first|(refine Nm fun _ _=>?_;cbv))
 refine LoopThen.mk (C.loopAt (ι:=Nat) [(4,5),(8,18)] (fun k=>[(4,.int .i64 0),(8,.int .i64 k)]) (fun _=>[])
  (fun k=>k≤l.length∧∀ (j:Nat) x,j<k→l[j]?=some x→v≠x) (fun k=>N-k) (by decide +kernel) (Start.mk z [] [] ⟨by omega,fun j x hj=>by omega⟩ (by cbv;(repeat' apply And.intro)<;>first|exact True.intro|exact WkR.refl _|rfl|lia)) ?_)
 intro k g
 cbv
 have g1:k≤l.length:=g.1
 have g2:=g.2
 clear g
 by_cases hk:k<l.length
 ·obtain⟨x,hx⟩:∃ x,l[k]?=some x:=⟨l[k],by simp [hk]⟩
  have hyes:v=x→O.o (idxS v) l=k:=fun e=>by rw[O.h];exact idxS_at (by rw[e];exact hx) g2
  have hst:v≠x→∀ (j:Nat) y,j<k+1→l[j]?=some y→v≠y:=fun h j y hj hy=>by
   by_cases ej:j=k
   ·subst ej;rw[hx] at hy;cases hy;exact h
   ·exact g2 j y (by omega) hy
  obtain⟨Q,eQ⟩:∃ Q,Q=O.o (idxS v) l:=⟨_,rfl⟩
  rw[← eQ] at hyes ⊢
  clear g2 eQ
  (repeat' first|(refine Na ?_ fun _ _=>?_;(focus lia);cbv)|(refine Ex.known O strW rfl hx ?_ ?_;(focus lia);cbv)|(refine Back.up [] [] ?_ ?_ fun _ _=>?_;rotate_left 2;cbv;refine And.intro ?_ ?_)|(refine Br.t ?_ ?_;(focus first|assumption|lia);cbv)|(refine Br.mk (fun _=>?_) (fun _=>?_)<;>cbv)|(refine R0 ?_;cbv))
  all_goals(repeat' apply And.intro)
  all_goals try first
   | exact True.intro
   | exact WkR.refl _
   | (clear hx hst hyes;lia)
  all_goals first
   | exact hst (by assumption)
   | (rw[hyes (by assumption)];clear hx hst hyes;lia)
   | trace_state
 ·have hno:O.o (idxS v) l=-1:=by rw[O.h];exact idxS_no fun j x hj hx=>g2 j x (by omega) hx
  rw[hno]
  clear g2
  (repeat' first|(refine Br.f ?_ ?_;(focus first|assumption|lia);cbv)|(refine R0 ?_;cbv))
  all_goals first
   | exact⟨rfl,trivial⟩
   | (exfalso;lia)
   | trace_state
theorem containsS_fn (O:Opq) (l:List ByteArray) (v:ByteArray) (hl:l.length≤1000):Fn prog 178 [.sl true 0 false 1 (O.o Strs l),.str v] [] [.bool (O.o (inS v) l)] []:=by
 have k:=indexS_fn O l v hl
 have hi:(0≤O.o (idxS v) l ↔ O.o (inS v) l=true):=by rw[O.h,O.h];exact idxS_ge v l
 obtain⟨Q,eQ⟩:∃ Q,Q=O.o (idxS v) l:=⟨_,rfl⟩
 rw[← eQ] at k hi
 obtain⟨B,eB⟩:∃ Q,Q=O.o (inS v) l:=⟨_,rfl⟩
 rw[← eB] at hi ⊢
 clear eQ eB
 cases B
 all_goals
  refine go (fn:=Proofs.Tryz.f178) (n:=7) (rv:=[ResultVar.tmp 4]) rfl (by decide) rfl (by decide +kernel) rfl rfl (by simp) fun F L C=>?_
  cbv
  (repeat' first|(refine CallThen.mk _ _ (C.fn (k)) ?_;cbv)|(refine Br.t ?_ ?_;(focus first|assumption|lia);cbv)|(refine Br.f ?_ ?_;(focus first|assumption|lia);cbv)|(refine R0 ?_;cbv))
  all_goals first
   | exact⟨rfl,trivial⟩
   | (exfalso;simp at hi;clear k;lia)
   | trace_state
theorem nameL_in (w:List UInt8):inS (ofL w) names5=nameL w:=by
 rw[Bool.eq_iff_iff]
 simp only [inS,names5,List.any_cons,List.any_nil,Bool.or_false,Bool.or_eq_true,decide_eq_true_eq,nameL,beq_iff_eq]
 have e:∀ l:List UInt8,(ofL w=⟨l.toArray⟩ ↔ w=l):=fun l=>ofL_inj (l:=w) (m:=l)
 rw[show(⟨#[110,111,114,109]⟩:ByteArray)=⟨[110,111,114,109].toArray⟩ from rfl,show(⟨#[99,111,110,106]⟩:ByteArray)=⟨[99,111,110,106].toArray⟩ from rfl,show(⟨#[116,117,114,110]⟩:ByteArray)=⟨[116,117,114,110].toArray⟩ from rfl,show(⟨#[108,111,119]⟩:ByteArray)=⟨[108,111,119].toArray⟩ from rfl,show(⟨#[104,101,97,100]⟩:ByteArray)=⟨[104,101,97,100].toArray⟩ from rfl,e,e,e,e,e]
 simp only [or_assoc]
theorem name_fn (O:Opq) (w:List UInt8):Fn prog 156 [.str (O.o ofL w)] [] [.bool (O.o nameL w)] []:=by
 have k:=containsS_fn O names5 (O.o ofL w) (by decide)
 rw[show O.o (inS (O.o ofL w)) names5=O.o nameL w by simp only [O.h];exact nameL_in w,show O.o Strs names5=[[.str ⟨#[110,111,114,109]⟩],[.str ⟨#[99,111,110,106]⟩],[.str ⟨#[116,117,114,110]⟩],[.str ⟨#[108,111,119]⟩],[.str ⟨#[104,101,97,100]⟩]] by rw[O.h];rfl] at k
 refine go (fn:=Proofs.Tryz.f156) (n:=5) (rv:=[ResultVar.tmp 2]) rfl (by decide) rfl (by decide +kernel) rfl rfl (by simp) fun F L C=>?_
 cbv
 (repeat' first|(refine CallThen.mk _ _ (C.fn (Fn.wkA (k) ?_)) ?_;(focus((repeat' apply WkAL.cons)<;>first|exact WkAL.nil|exact WkA.refl _|exact WkA.lend rfl|exact WkA.bor rfl (WkR.refl _)|exact WkA.wk (Wk.nil _ _)|exact WkA.wk (Wk.sl' rfl rfl (WkR.refl _))|(refine WkA.agg' ?_;((repeat' apply WkAL.cons)<;>first|exact WkAL.nil|exact WkA.refl _|exact WkA.lend rfl|exact WkA.bor rfl (WkR.refl _)|exact WkA.wk (Wk.nil _ _)|exact WkA.wk (Wk.sl' rfl rfl (WkR.refl _))|(refine WkA.agg' ?_;((repeat' apply WkAL.cons)<;>first|exact WkAL.nil|exact WkA.refl _|exact WkA.lend rfl|exact WkA.bor rfl (WkR.refl _)|exact WkA.wk (Wk.nil _ _)|exact WkA.wk (Wk.sl' rfl rfl (WkR.refl _))))))));cbv)|(refine R0 ?_;cbv))
theorem number_fn (O:Opq) (w:List UInt8) (hw:w.length≤1000000):Fn prog 157 [.str (O.o ofL w)] [] [.bool (O.o plainL w)] []:=by
 have k:=trimD_fn O (O.o ofL w) (by rw[O.h,size_ofL];omega)
 obtain⟨T,eT⟩:∃ T,T=O.o trimW (O.o ofL w) digitB.data.toList:=⟨_,rfl⟩
 have hT:T=ByteArray.empty ↔ O.o plainL w=true:=by rw[eT];simp only [O.h];exact trim_digits w
 rw[← eT] at k
 obtain⟨B,eB⟩:∃ B,B=O.o plainL w:=⟨_,rfl⟩
 rw[← eB] at hT ⊢
 clear eT eB
 cases B
 all_goals
  refine go (fn:=Proofs.Tryz.f157) (n:=5) (rv:=[ResultVar.tmp 2]) rfl (by decide) rfl (by decide +kernel) rfl rfl (by simp) fun F L C=>?_
  cbv
  (repeat' first|(refine CallThen.mk _ _ (C.fn (k)) ?_;cbv)|(refine Br.mk (fun _=>?_) (fun _=>?_)<;>cbv)|(refine R0 ?_;cbv))
  all_goals first
   | exact⟨rfl,trivial⟩
   | (exfalso;simp at hT;exact hT (by assumption))
   | (exfalso;simp at hT;contradiction)
   | trace_state
theorem isPath_L (w:List UInt8):isPath (ofL w)=pathL w:=by
 simp only [isPath,pathL,toL_ofL,size_ofL]
theorem partA {S W T U V:ByteArray} {v:Int} {b:Bool} {k n:Int} {t:ByteArray} {a:List (List PV)} (hW:W=ByteArray.empty)
  (kw:Fn prog 154 [.ptr 0 0] [.box [.str S,.bool false,.int .i64 v]] [.str W] [.box [.str T,.bool false,.int .i64 v]])
  (kn:Fn prog 105 [.ptr 0 0,.int .u8 40] [.box [.str T,.bool false,.int .i64 v]] [.bool true] [.box [.str U,.bool false,.int .i64 v]])
  (ki:Fn prog 155 [.ptr 0 0] [.box [.str U,.bool false,.int .i64 v]] [.agg [.int .i64 k,.str t,.int .i64 n,.sl false 0 false 4 a]] [.box [.str V,.bool b,.int .i64 v]]) :
  Fn prog 139 [.ptr 0 0] [.box [.str S,.bool false,.int .i64 v]] [.agg [.int .i64 k,.str t,.int .i64 n,.sl false 0 false 4 a]] [.box [.str V,.bool b,.int .i64 v]]:=by
 refine go (fn:=Proofs.Tryz.f139) (n:=72) (rv:=[ResultVar.cell 2 103]) rfl (by decide) rfl (by decide +kernel) rfl rfl (by simp) fun F L C=>?_
 cbv
 (repeat' first|(refine CallThen.mk _ _ (C.fn (kw)) ?_;cbv)|(refine CallThen.mk _ _ (C.fn (kn)) ?_;cbv)|(refine CallThen.mk _ _ (C.fn (ki)) ?_;cbv)|(refine Br.t ?_ ?_;(focus first|assumption|lia);cbv)|(refine R0 ?_;cbv))
 all_goals first
  | exact⟨.refl _,trivial⟩
  | (exfalso;contradiction)
  | trace_state
theorem partX {S W T U V:ByteArray} {v:Int} {b:Bool} {k n:Int} {t:ByteArray} {a:List (List PV)} (hW:¬ W=ByteArray.empty)
  (kw:Fn prog 154 [.ptr 0 0] [.box [.str S,.bool false,.int .i64 v]] [.str W] [.box [.str T,.bool false,.int .i64 v]])
  (km:Fn prog 156 [.str W] [] [.bool true] [])
  (kn:Fn prog 105 [.ptr 0 0,.int .u8 40] [.box [.str T,.bool false,.int .i64 v]] [.bool true] [.box [.str U,.bool false,.int .i64 v]])
  (ki:Fn prog 155 [.ptr 0 0] [.box [.str U,.bool false,.int .i64 v]] [.agg [.int .i64 k,.str t,.int .i64 n,.sl false 0 false 4 a]] [.box [.str V,.bool b,.int .i64 v]]) :
  Fn prog 139 [.ptr 0 0] [.box [.str S,.bool false,.int .i64 v]] [.agg [.int .i64 5,.str W,.int .i64 0,.sl false 0 false 4 [[.int .i64 k,.str t,.int .i64 n,.sl false 0 false 4 a]]]] [.box [.str V,.bool b,.int .i64 v]]:=by
 refine go (fn:=Proofs.Tryz.f139) (n:=72) (rv:=[ResultVar.cell 2 103]) rfl (by decide) rfl (by decide +kernel) rfl rfl (by simp) fun F L C=>?_
 cbv
 (repeat' first|(refine CallThen.mk _ _ (C.fn (kw)) ?_;cbv)|(refine CallThen.mk _ _ (C.fn (km)) ?_;cbv)|(refine CallThen.mk _ _ (C.fn (kn)) ?_;cbv)|(refine CallThen.mk _ _ (C.fn (ki)) ?_;cbv)|(refine RetThen.mk [] [2688] ?_;cbv)|(refine Nl fun _ _ hq=>?_;(try simp only [lenS] at hq);cbv)|(refine Br.f ?_ ?_;(focus first|assumption|lia);cbv))
 all_goals first
  | (exfalso;contradiction)
  | exact⟨.of_eq (by symm;assumption),trivial⟩
  | trace_state
theorem partP1 {S W T:ByteArray} {v:Int} (hW:W=ByteArray.empty)
  (kw:Fn prog 154 [.ptr 0 0] [.box [.str S,.bool false,.int .i64 v]] [.str W] [.box [.str T,.bool false,.int .i64 v]])
  (kn:Fn prog 105 [.ptr 0 0,.int .u8 40] [.box [.str T,.bool false,.int .i64 v]] [.bool false] [.box [.str T,.bool false,.int .i64 v]])
  (km:Fn prog 156 [.str W] [] [.bool false] []) (kp:Fn prog 65 [.str W] [] [.bool false] []) :
  Fn prog 139 [.ptr 0 0] [.box [.str S,.bool false,.int .i64 v]] [.agg [.int .i64 1,.str W,.int .i64 0,.sl false 0 false 4 []]] [.box [.str T,.bool true,.int .i64 v]]:=by
 refine go (fn:=Proofs.Tryz.f139) (n:=72) (rv:=[ResultVar.cell 2 103]) rfl (by decide) rfl (by decide +kernel) rfl rfl (by simp) fun F L C=>?_
 cbv
 (repeat' first|(refine CallThen.mk _ _ (C.fn (kw)) ?_;cbv)|(refine CallThen.mk _ _ (C.fn (kn)) ?_;cbv)|(refine CallThen.mk _ _ (C.fn (km)) ?_;cbv)|(refine CallThen.mk _ _ (C.fn (kp)) ?_;cbv)|(refine Br.t ?_ ?_;(focus first|assumption|lia);cbv)|(refine R0 ?_;cbv))
 all_goals first
  | exact⟨rfl,trivial⟩
  | (exfalso;contradiction)
  | trace_state
theorem partP3 {S W T:ByteArray} {v:Int} {p:Bool} (hW:¬ W=ByteArray.empty)
  (kw:Fn prog 154 [.ptr 0 0] [.box [.str S,.bool false,.int .i64 v]] [.str W] [.box [.str T,.bool false,.int .i64 v]])
  (km:Fn prog 156 [.str W] [] [.bool false] []) (kd:Fn prog 157 [.str W] [] [.bool false] []) (kp:Fn prog 65 [.str W] [] [.bool p] []) :
  Fn prog 139 [.ptr 0 0] [.box [.str S,.bool false,.int .i64 v]] [.agg [.int .i64 1,.str W,.int .i64 0,.sl false 0 false 4 []]] [.box [.str T,.bool (!p),.int .i64 v]]:=by
 cases p
 all_goals
  refine go (fn:=Proofs.Tryz.f139) (n:=72) (rv:=[ResultVar.cell 2 103]) rfl (by decide) rfl (by decide +kernel) rfl rfl (by simp) fun F L C=>?_
  cbv
  (repeat' first|(refine CallThen.mk _ _ (C.fn (kw)) ?_;cbv)|(refine CallThen.mk _ _ (C.fn (km)) ?_;cbv)|(refine CallThen.mk _ _ (C.fn (kd)) ?_;cbv)|(refine CallThen.mk _ _ (C.fn (kp)) ?_;cbv)|(refine Br.f ?_ ?_;(focus first|assumption|lia);cbv)|(refine R0 ?_;cbv))
  all_goals first
   | exact⟨rfl,trivial⟩
   | (exfalso;contradiction)
   | trace_state
theorem partP4 {S W T:ByteArray} {v:Int} {p:Bool} (hW:¬ W=ByteArray.empty)
  (kw:Fn prog 154 [.ptr 0 0] [.box [.str S,.bool false,.int .i64 v]] [.str W] [.box [.str T,.bool false,.int .i64 v]])
  (km:Fn prog 156 [.str W] [] [.bool true] [])
  (kn:Fn prog 105 [.ptr 0 0,.int .u8 40] [.box [.str T,.bool false,.int .i64 v]] [.bool false] [.box [.str T,.bool false,.int .i64 v]])
  (kd:Fn prog 157 [.str W] [] [.bool false] []) (kp:Fn prog 65 [.str W] [] [.bool p] []) :
  Fn prog 139 [.ptr 0 0] [.box [.str S,.bool false,.int .i64 v]] [.agg [.int .i64 1,.str W,.int .i64 0,.sl false 0 false 4 []]] [.box [.str T,.bool (!p),.int .i64 v]]:=by
 cases p
 all_goals
  refine go (fn:=Proofs.Tryz.f139) (n:=72) (rv:=[ResultVar.cell 2 103]) rfl (by decide) rfl (by decide +kernel) rfl rfl (by simp) fun F L C=>?_
  cbv
  (repeat' first|(refine CallThen.mk _ _ (C.fn (kw)) ?_;cbv)|(refine CallThen.mk _ _ (C.fn (km)) ?_;cbv)|(refine CallThen.mk _ _ (C.fn (kn)) ?_;cbv)|(refine CallThen.mk _ _ (C.fn (kd)) ?_;cbv)|(refine CallThen.mk _ _ (C.fn (kp)) ?_;cbv)|(refine Br.f ?_ ?_;(focus first|assumption|lia);cbv)|(refine R0 ?_;cbv))
  all_goals first
   | exact⟨rfl,trivial⟩
   | (exfalso;contradiction)
   | trace_state
theorem partN1 {S W T:ByteArray} {v m:Int} (hW:¬ W=ByteArray.empty)
  (kw:Fn prog 154 [.ptr 0 0] [.box [.str S,.bool false,.int .i64 v]] [.str W] [.box [.str T,.bool false,.int .i64 v]])
  (km:Fn prog 156 [.str W] [] [.bool false] []) (kd:Fn prog 157 [.str W] [] [.bool true] []) (ka:Fn prog 158 [.str W] [] [.int .i64 m,.ifc] []) :
  Fn prog 139 [.ptr 0 0] [.box [.str S,.bool false,.int .i64 v]] [.agg [.int .i64 2,.str ByteArray.empty,.int .i64 m,.sl false 0 false 4 []]] [.box [.str T,.bool true,.int .i64 v]]:=by
 refine go (fn:=Proofs.Tryz.f139) (n:=72) (rv:=[ResultVar.cell 2 103]) rfl (by decide) rfl (by decide +kernel) rfl rfl (by simp) fun F L C=>?_
 cbv
 (repeat' first|(refine CallThen.mk _ _ (C.fn (kw)) ?_;cbv)|(refine CallThen.mk _ _ (C.fn (km)) ?_;cbv)|(refine CallThen.mk _ _ (C.fn (kd)) ?_;cbv)|(refine CallThen.mk _ _ (C.fn (ka)) ?_;cbv)|(refine Br.f ?_ ?_;(focus first|assumption|lia);cbv)|(refine R0 ?_;cbv))
 all_goals first
  | exact⟨rfl,trivial⟩
  | (exfalso;contradiction)
  | trace_state
theorem partN2 {S W T:ByteArray} {v m:Int} (hW:¬ W=ByteArray.empty) (hl:15<W.size)
  (kw:Fn prog 154 [.ptr 0 0] [.box [.str S,.bool false,.int .i64 v]] [.str W] [.box [.str T,.bool false,.int .i64 v]])
  (km:Fn prog 156 [.str W] [] [.bool false] []) (kd:Fn prog 157 [.str W] [] [.bool true] []) (ka:Fn prog 158 [.str W] [] [.int .i64 m,.lit .nilIface] []) :
  Fn prog 139 [.ptr 0 0] [.box [.str S,.bool false,.int .i64 v]] [.agg [.int .i64 2,.str ByteArray.empty,.int .i64 m,.sl false 0 false 4 []]] [.box [.str T,.bool true,.int .i64 v]]:=by
 refine go (fn:=Proofs.Tryz.f139) (n:=72) (rv:=[ResultVar.cell 2 103]) rfl (by decide) rfl (by decide +kernel) rfl rfl (by simp) fun F L C=>?_
 cbv
 (repeat' first|(refine CallThen.mk _ _ (C.fn (kw)) ?_;cbv)|(refine CallThen.mk _ _ (C.fn (km)) ?_;cbv)|(refine CallThen.mk _ _ (C.fn (kd)) ?_;cbv)|(refine CallThen.mk _ _ (C.fn (ka)) ?_;cbv)|(refine Nm fun _ _=>?_;cbv)|(refine Br.t ?_ ?_;(focus first|assumption|lia);cbv)|(refine Br.f ?_ ?_;(focus first|assumption|lia);cbv)|(refine R0 ?_;cbv))
 all_goals first
  | exact⟨rfl,trivial⟩
  | (exfalso;contradiction)
  | (exfalso;clear kw km kd ka;lia)
  | trace_state
theorem partN3 {S W T D:ByteArray} {v m:Int} {q:Bool} (hW:¬ W=ByteArray.empty) (hl:W.size≤15) (hq:D=W ↔ q=true)
  (kw:Fn prog 154 [.ptr 0 0] [.box [.str S,.bool false,.int .i64 v]] [.str W] [.box [.str T,.bool false,.int .i64 v]])
  (km:Fn prog 156 [.str W] [] [.bool false] []) (kd:Fn prog 157 [.str W] [] [.bool true] []) (ka:Fn prog 158 [.str W] [] [.int .i64 m,.lit .nilIface] []) (ki:Fn prog 159 [.int .i64 m] [] [.str D] []) :
  Fn prog 139 [.ptr 0 0] [.box [.str S,.bool false,.int .i64 v]] [.agg [.int .i64 2,.str ByteArray.empty,.int .i64 m,.sl false 0 false 4 []]] [.box [.str T,.bool (!q),.int .i64 v]]:=by
 cases q
 all_goals
  simp only [iff_true,Bool.false_eq_true,iff_false] at hq
  refine go (fn:=Proofs.Tryz.f139) (n:=72) (rv:=[ResultVar.cell 2 103]) rfl (by decide) rfl (by decide +kernel) rfl rfl (by simp) fun F L C=>?_
  cbv
  (repeat' first|(refine CallThen.mk _ _ (C.fn (kw)) ?_;cbv)|(refine CallThen.mk _ _ (C.fn (km)) ?_;cbv)|(refine CallThen.mk _ _ (C.fn (kd)) ?_;cbv)|(refine CallThen.mk _ _ (C.fn (ka)) ?_;cbv)|(refine CallThen.mk _ _ (C.fn (ki)) ?_;cbv)|(refine Nm fun _ _=>?_;cbv)|(refine Br.t ?_ ?_;(focus first|assumption|lia);cbv)|(refine Br.f ?_ ?_;(focus first|assumption|lia);cbv)|(refine R0 ?_;cbv))
  all_goals first
   | exact⟨rfl,trivial⟩
   | (exfalso;contradiction)
   | (exfalso;clear kw km kd ka ki;lia)
   | trace_state
def PartSays (O:Opq) (n:Nat):Prop:=∀ (s:List UInt8) (nest:Nat) (x:Nd) (r:List UInt8) (b:Bool),partD lexT n s=(x,r,b)→s.length<n→nest+s.length≤256→∀ v:Int,v=nest →
 Fn prog 139 [.ptr 0 0] [.box [.str (O.o ofL s),.bool false,.int .i64 v]] [.agg (x.en O)] [.box [.str (O.o ofL r),.bool b,.int .i64 v]]
def ProdSays (O:Opq) (n:Nat):Prop:=∀ (s:List UInt8) (nest:Nat) (x:Nd) (r:List UInt8) (b:Bool),prodD lexT n s=(x,r,b)→s.length<n→nest+s.length≤256→∀ v:Int,v=nest →
 Fn prog 104 [.ptr 0 0] [.box [.str (O.o ofL s),.bool false,.int .i64 v]] [.agg (x.en O)] [.box [.str (O.o ofL r),.bool b,.int .i64 v]]
def SumSays (O:Opq) (n:Nat):Prop:=∀ (s:List UInt8) (nest:Nat) (x:Nd) (r:List UInt8) (b:Bool),sumD lexT n s=(x,r,b)→s.length<n→nest+s.length≤256→∀ v:Int,v=nest →
 Fn prog 74 [.ptr 0 0] [.box [.str (O.o ofL s),.bool false,.int .i64 v]] [.agg (x.en O)] [.box [.str (O.o ofL r),.bool b,.int .i64 v]]
def InnerSays (O:Opq) (n:Nat):Prop:=∀ (s:List UInt8) (nest:Nat) (x:Nd) (r:List UInt8) (b:Bool),innerD lexT n s=(x,r,b)→s.length<n→nest+1+s.length≤256→∀ v:Int,v=nest →
 Fn prog 155 [.ptr 0 0] [.box [.str (O.o ofL s),.bool false,.int .i64 v]] [.agg (x.en O)] [.box [.str (O.o ofL r),.bool b,.int .i64 v]]
theorem sum_len (n:Nat) (s:List UInt8):(sumD lexT n s).2.1.length≤s.length:=by
 have j1:(prodD lexT n s).2.1.length≤s.length:=by rw[prodD];exact Nat.le_trans ((rest_len n).2.1 _ _ _) ((rest_len n).1 s)
 rw[sumD];exact Nat.le_trans ((rest_len n).2.2 _ _ _) j1
theorem innerA {S T:ByteArray} {v v1:Int} {k n:Int} {t:ByteArray} {a:List (List PV)} (h1:v1=IntKind.i64.wrap (v+1)) (h2:v=IntKind.i64.wrap (v1-1)) (h3:v1≤256)
  (ks:Fn prog 74 [.ptr 0 0] [.box [.str S,.bool false,.int .i64 v1]] [.agg [.int .i64 k,.str t,.int .i64 n,.sl false 0 false 4 a]] [.box [.str T,.bool true,.int .i64 v1]]) :
  Fn prog 155 [.ptr 0 0] [.box [.str S,.bool false,.int .i64 v]] [.agg [.int .i64 k,.str t,.int .i64 n,.sl false 0 false 4 a]] [.box [.str T,.bool true,.int .i64 v]]:=by
 refine go (fn:=Proofs.Tryz.f155) (n:=40) (rv:=[ResultVar.cell 2 103]) rfl (by decide) rfl (by decide +kernel) rfl rfl (by simp) fun F L C=>?_
 cbv
 (repeat' first|(refine Named.at' v1 h1 ?_;cbv)|(refine Named.at' v h2 ?_;cbv)|(refine CallThen.mk _ _ (C.fn (ks)) ?_;cbv)|(refine Br.f ?_ ?_;(focus first|assumption|lia);cbv)|(refine R0 ?_;cbv))
 all_goals first
  | exact⟨.refl _,trivial⟩
  | (exfalso;clear ks h1 h2;lia)
  | trace_state
theorem innerB {S T U:ByteArray} {v v1:Int} {k n:Int} {t:ByteArray} {a:List (List PV)} {q:Bool} (h1:v1=IntKind.i64.wrap (v+1)) (h2:v=IntKind.i64.wrap (v1-1)) (h3:v1≤256)
  (ks:Fn prog 74 [.ptr 0 0] [.box [.str S,.bool false,.int .i64 v1]] [.agg [.int .i64 k,.str t,.int .i64 n,.sl false 0 false 4 a]] [.box [.str T,.bool false,.int .i64 v1]])
  (kn:Fn prog 105 [.ptr 0 0,.int .u8 41] [.box [.str T,.bool false,.int .i64 v]] [.bool q] [.box [.str U,.bool false,.int .i64 v]]) :
  Fn prog 155 [.ptr 0 0] [.box [.str S,.bool false,.int .i64 v]] [.agg [.int .i64 k,.str t,.int .i64 n,.sl false 0 false 4 a]] [.box [.str U,.bool (!q),.int .i64 v]]:=by
 cases q
 all_goals
  refine go (fn:=Proofs.Tryz.f155) (n:=40) (rv:=[ResultVar.cell 2 103]) rfl (by decide) rfl (by decide +kernel) rfl rfl (by simp) fun F L C=>?_
  cbv
  (repeat' first|(refine Named.at' v1 h1 ?_;cbv)|(refine Named.at' v h2 ?_;cbv)|(refine CallThen.mk _ _ (C.fn (ks)) ?_;cbv)|(refine CallThen.mk _ _ (C.fn (kn)) ?_;cbv)|(refine Br.f ?_ ?_;(focus first|assumption|lia);cbv)|(refine R0 ?_;cbv))
  all_goals first
   | exact⟨.refl _,trivial⟩
   | (exfalso;clear ks kn h1 h2;lia)
   | trace_state
theorem inner_says {O : Opq} {n : Nat} (ih : SumSays O n) : InnerSays O n := fun s nest x r b hD hs hnest v hv => by
  obtain ⟨⟨X, R, B⟩, hS⟩ : ∃ p, sumD lexT n s = p := ⟨_, rfl⟩
  have hR : R.length ≤ s.length := by have := sum_len n s; rwa [hS] at this
  have ks := ih s (nest + 1) X R B hS hs (by omega) (v + 1) (by omega)
  have h1 : v + 1 = IntKind.i64.wrap (v + 1) := (wrap64 (by omega)).symm
  have h2 : v = IntKind.i64.wrap (v + 1 - 1) := by rw [wrap64 (by omega)]; omega
  rw [innerD, hS] at hD
  simp only at hD
  cases B with
  | true =>
    have e : x = X ∧ r = R ∧ b = true := by
      split at hD
      · rename_i h; simp at h
      · rename_i h; simp only [Prod.mk.injEq] at h hD; exact ⟨hD.1.symm, by rw [← hD.2.1, h.1], hD.2.2.symm⟩
    obtain ⟨rfl, rfl, rfl⟩ := e
    exact innerA h1 h2 (by omega) ks
  | false =>
    have kn := next_fn O R false v 41 41 rfl (by omega)
    have := innerB h1 h2 (by omega) ks kn
    have e : x = X ∧ r = O.o (nextR 41) R ∧ b = !(O.o (nextB 41) R) := by
      rw [O.h, O.h]
      split at hD
      · rename_i t h
        simp only [Prod.mk.injEq, and_true] at h hD
        subst h
        exact ⟨hD.1.symm, by rw [← hD.2.1]; simp [nextR], by rw [← hD.2.2]; simp [nextB]⟩
      · rename_i t b' hn h
        simp only [Prod.mk.injEq] at h hD
        obtain ⟨rfl, rfl⟩ := h
        have h41 : nextB 41 R = false ∧ nextR 41 R = R := by
          cases R with
          | nil => exact ⟨rfl, rfl⟩
          | cons c t =>
            have hc : ¬ c = 41 := fun e => hn t (by rw [e]) rfl
            simp [nextB, nextR, hc]
        exact ⟨hD.1.symm, by rw [h41.2, hD.2.1], by rw [h41.1, ← hD.2.2]; rfl⟩
    obtain ⟨rfl, rfl, rfl⟩ := e
    exact this
/-! ### A part -/
theorem notCall {w:List UInt8} (h:nameL w=true):plainL w=false∧w≠[]:=by
 simp only [nameL,Bool.or_eq_true,beq_iff_eq] at h
 rcases h with (((rfl|rfl)|rfl)|rfl)|rfl<;>exact⟨by decide,by simp⟩
theorem leafN_path {w:List UInt8} (h:¬ (w≠[]∧plainL w=true)):leafN w=(.mk 1 w 0 [],!pathL w):=by rw[leafN,if_neg h]
theorem leafN_num {w:List UInt8} (h:w≠[]∧plainL w=true):leafN w=(.mk 2 [] (atoiV w) [],!decide (w.length≤15∧digN (natOf w)=w)):=by rw[leafN,if_pos h];rfl
theorem leaf_says {O:Opq} {s:List UInt8} {nest:Nat} {v:Int} (hv:v=nest) (hl:s.length≤256) (hnc:∀ t,restW s=40::t→headW s≠[]∧nameL (headW s)=false) :
  Fn prog 139 [.ptr 0 0] [.box [.str (O.o ofL s),.bool false,.int .i64 v]] [.agg ((leafN (headW s)).1.en O)] [.box [.str (O.o ofL (restW s)),.bool (leafN (headW s)).2,.int .i64 v]]:=by
 have hwl:=word_len s
 have kw:=word_fn O s false v (by omega)
 rw[show O.o headW s=headW s by rw[O.h],show O.o restW s=restW s by rw[O.h]] at kw
 obtain⟨w,hw⟩:∃ w,w=headW s:=⟨_,rfl⟩
 obtain⟨R,hR⟩:∃ w,w=restW s:=⟨_,rfl⟩
 rw[← hw,← hR] at kw hnc hwl ⊢
 have km:=name_fn O w
 have kd:=number_fn O w (by omega)
 have kp:=path_fn O (O.o ofL w)
 rw[show O.o isPath (O.o ofL w)=pathL w by simp only [O.h];exact isPath_L w] at kp
 have kn:=next_fn O R false v 40 40 rfl (by omega)
 have hnx:(∀ t,R≠40::t)→O.o (nextB 40) R=false∧O.o (nextR 40) R=R:=fun h=>by
  rw[O.h,O.h]
  cases R with
  | nil=>exact⟨rfl,rfl⟩
  | cons c t =>
   have hc:¬ c=40:=fun e=>h t (by rw[e])
   simp [nextB,nextR,hc]
 have hemp:O.o ofL w=ByteArray.empty ↔ w=[]:=by rw[O.h];exact ofL_emp
 have hnil:O.o Nds.enc []=[]:=Nds.nil O
 by_cases hw0:w=[]
 ·have hR40:∀ t,R≠40::t:=fun t e=>(hnc t e).1 hw0
  obtain⟨q1,q2⟩:=hnx hR40
  rw[q1,q2] at kn
  rw[leafN_path (by simp [hw0])]
  have kp0:pathL w=false:=by rw[hw0];rfl
  have km0:O.o nameL w=false:=by rw[O.h,hw0];rfl
  rw[kp0] at kp ⊢
  rw[km0] at km
  have:=partP1 (hemp.2 hw0) kw kn km kp
  rw[← hnil] at this
  exact this
 ·have hW:¬ O.o ofL w=ByteArray.empty:=fun e=>hw0 (hemp.1 e)
  cases hnm:nameL w with
  | true =>
   have hR40:∀ t,R≠40::t:=fun t e=>by rw[(hnc t e).2] at hnm;cases hnm
   obtain⟨q1,q2⟩:=hnx hR40
   rw[q1,q2] at kn
   have hpl:=(notCall hnm).1
   rw[show O.o nameL w=true by rw[O.h];exact hnm] at km
   rw[show O.o plainL w=false by rw[O.h];exact hpl] at kd
   rw[leafN_path (by simp [hpl])]
   have:=partP4 hW kw km kn kd kp
   rw[← hnil] at this
   exact this
  | false =>
   rw[show O.o nameL w=false by rw[O.h];exact hnm] at km
   cases hpl:plainL w with
   | false =>
    rw[show O.o plainL w=false by rw[O.h];exact hpl] at kd
    rw[leafN_path (by simp [hpl])]
    have:=partP3 hW kw km kd kp
    rw[← hnil] at this
    exact this
   | true =>
    rw[show O.o plainL w=true by rw[O.h];exact hpl] at kd
    rw[leafN_num ⟨hw0,hpl⟩]
    have e0:O.o ofL []=ByteArray.empty:=by rw[O.h];rfl
    by_cases hbig:natOf w<9223372036854775808
    ·have ka:=atoi_ok w hw0 hpl (by omega) hbig
     rw[← atoiV_lt hbig,show ofL w=O.o ofL w by rw[O.h]] at ka
     by_cases hl15:w.length≤15
     ·have ki:=itoa_fn (natOf w) (by omega)
      rw[← atoiV_lt hbig,show ofL (digN (natOf w))=O.o ofL (digN (natOf w)) by rw[O.h]] at ki
      have:=partN3 (q:=decide (w.length≤15∧digN (natOf w)=w)) hW (by rw[O.h,size_ofL];exact hl15) (by rw[O.h,ofL_inj,decide_eq_true_eq];exact⟨fun e=>⟨hl15,e⟩,fun e=>e.2⟩) kw km kd ka ki
      rw[← hnil,← e0] at this
      exact this
     ·rw[show decide (w.length≤15∧digN (natOf w)=w)=false by simp [hl15]]
      have:=partN2 hW (by rw[O.h,size_ofL];omega) kw km kd ka
      rw[← hnil,← e0] at this
      exact this
    ·have ka:=atoi_range w hw0 hpl (by omega) hbig
     rw[← atoiV_ge hbig,show ofL w=O.o ofL w by rw[O.h]] at ka
     have h15:¬ w.length≤15:=fun h=>by
      have h1:=natOf_lt hpl
      have h2:10 ^ w.length≤10 ^ 15:=Nat.pow_le_pow_right (by decide) h
      omega
     rw[show decide (w.length≤15∧digN (natOf w)=w)=false by simp [h15]]
     have:=partN1 hW kw km kd ka
     rw[← hnil,← e0] at this
     exact this
theorem part_says {O:Opq} {n:Nat} (ih:InnerSays O n):PartSays O (n+1):=fun s nest x r b hD hs hnest v hv=>by
 have hwl:=word_len s
 have kw:=word_fn O s false v (by omega)
 rw[show O.o headW s=headW s by rw[O.h],show O.o restW s=restW s by rw[O.h]] at kw
 have hD:(match restW s with
  | 40::r=>if headW s=[] then innerD lexT n r else if nameL (headW s)=true then(callN (headW s) (innerD lexT n r).1,(innerD lexT n r).2.1,(innerD lexT n r).2.2) else((leafN (headW s)).1,40::r,(leafN (headW s)).2)
  | r=>((leafN (headW s)).1,r,(leafN (headW s)).2))=(x,r,b):=by rw[partD] at hD;exact hD
 by_cases h40:∃ t,restW s=40::t∧(headW s=[]∨nameL (headW s)=true)
 ·obtain⟨t,ht,hor⟩:=h40
  have kn:=next_fn O (restW s) false v 40 40 rfl (by omega)
  rw[show O.o (nextB 40) (restW s)=true by rw[O.h,ht];simp [nextB],show O.o (nextR 40) (restW s)=t by rw[O.h,ht];simp [nextR]] at kn
  rw[ht] at hD
  simp only at hD
  have htl:t.length+1≤s.length:=by
   have h3:(restW s).length=t.length+1:=by rw[ht];rfl
   omega
  obtain⟨⟨X,R,B⟩,hI⟩:∃ p,innerD lexT n t=p:=⟨_,rfl⟩
  have ki:=ih t nest X R B hI (by omega) (by omega) v hv
  by_cases hw0:headW s=[]
  ·rw[if_pos hw0,hI] at hD
   cases hD
   exact partA (by rw[hw0,O.h];rfl) kw kn ki
  ·have hnm:=hor.resolve_left hw0
   rw[if_neg hw0,if_pos hnm,hI] at hD
   cases hD
   have km:=name_fn O (headW s)
   rw[show O.o nameL (headW s)=true by rw[O.h];exact hnm] at km
   have:=partX (by rw[O.h,ofL_emp];exact hw0) kw km kn ki
   have e:[[PV.int .i64 X.kind,.str (O.o ofL X.text),.int .i64 X.num,.sl false 0 false 4 (O.o Nds.enc X.args)]]=O.o Nds.enc [X]:=(Nds.one O X).symm
   rw[e] at this
   exact this
 ·have hnc:∀ t,restW s=40::t→headW s≠[]∧nameL (headW s)=false:=fun t ht=>by
   refine⟨fun e=>h40 ⟨t,ht,.inl e⟩,?_⟩
   cases hnm:nameL (headW s) with
   | true=>exact absurd ⟨t,ht,.inr hnm⟩ h40
   | false=>rfl
  have k:=leaf_says (O:=O) (nest:=nest) hv (by omega) hnc
  have e:x=(leafN (headW s)).1∧r=restW s∧b=(leafN (headW s)).2:=by
   split at hD
   ·rename_i t ht
    obtain⟨q1,q2⟩:=hnc t ht
    rw[if_neg q1,if_neg (by simp [q2])] at hD
    cases hD
    exact⟨rfl,ht.symm,rfl⟩
   ·cases hD;exact⟨rfl,rfl,rfl⟩
  obtain⟨rfl,rfl,rfl⟩:=e
  exact k
end Go.Sym
