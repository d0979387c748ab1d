/- What is pulled and read, by the document. -/
import Derived.Test.YtfkigahipkndgaaGreatDoorK22
set_option linter.all false
set_option linter.unusedVariables false
set_option linter.unusedSimpArgs false
namespace Go.Sym
open Go Go.Proofs.Tryz
set_option maxRecDepth 100000
def partC (O:Opq) (l:List Change) (d k:Nat):List (List PV):=Chs.enc O ((l.take k).drop d)
theorem partC_len (O:Opq) (l:List Change) (d k:Nat) (h:k≤l.length):(partC O l d k).length=k-d:=by rw[partC,Chs.enc_len,List.length_drop,List.length_take];omega
theorem partC_succ {O:Opq} {l:List Change} {d k:Nat} {x:Change} (hx:l[k]?=some x) (h:d≤k):partC O l d (k+1)=partC O l d k++[x.enc O]:=by
 have hk:=(List.getElem?_eq_some_iff.1 hx).1
 rw[partC,List.take_add_one,hx,Option.toList_some,List.drop_append_of_le_length (by rw[List.length_take];omega),partC,Chs.enc,Chs.enc,List.map_append];rfl
theorem partC_same {O:Opq} {l:List Change} {d k:Nat} (h:k<d):partC O l d (k+1)=partC O l d k:=by
 rw[partC,partC,List.drop_of_length_le (by rw[List.length_take];omega),List.drop_of_length_le (by rw[List.length_take];omega)]
theorem partC_end {O:Opq} {l:List Change} {d k m:Nat} (h:(k=l.length∧k≤d+m)∨k=d+m):partC O l d k=Chs.enc O ((l.drop d).take m):=by
 rw[partC,List.drop_take]
 congr 1
 rcases h with ⟨h,h2⟩|h
 ·rw[List.take_of_length_le (by rw[List.length_drop];omega),List.take_of_length_le (by rw[List.length_drop];omega)]
 ·rw[h,Nat.add_sub_cancel_left]
set_option maxHeartbeats 4000000 in
theorem rpull_fn (O:Opq) (f:Feed) (a m:Int) (hm:mayF f=true):Fn prog 155 [.agg (f.enc O),.int .i64 a,.int .i64 m] [] [.sl false 0 false 4 (O.o (Chs.enc O) (O.o pullR f a m)),.int .i64 (O.o pullE f a m)] []:=by
 have hl1:=Chs.len O f.changes
 obtain⟨⟨q1,q2,q3,q4,_⟩,hall,_⟩:=mayF_iff.1 hm
 obtain⟨N,hN⟩:∃ N:Nat,N=f.changes.length:=⟨_,rfl⟩
 obtain⟨z,hz⟩:∃ z:Nat,z=0:=⟨_,rfl⟩
 have hrt:∀ {e:Int},pullE f a m=e∧pullR f a m=[]→O.o (Chs.enc O) (O.o pullR f a m)=[]∧O.o pullE f a m=e:=fun h=>by
  simp only [O.h];rw[h.1,h.2];exact⟨rfl,rfl⟩
 by_cases hk:1≤m∧m≤16∧0≤a∧a≤f.total
 ·by_cases hb:a<f.base
  ·obtain⟨x2,x1⟩:=hrt (pullE_old ⟨hm,hk⟩ hb)
   clear hrt hall
   refine go (fn:=Proofs.Tryz.f155) (n:=58) (rv:=[ResultVar.tmp 6,ResultVar.tmp 7]) rfl (by decide) rfl (by decide +kernel) rfl rfl (by simp) fun F L C=>?_
   cbv
   (repeat' first|(refine Na ?_ fun _ _=>?_;(focus lia);cbv)|(refine Nl fun _ _ hq=>?_;(try simp only [lenS] at hq);cbv)|(refine Nm fun _ _=>?_;cbv)|(refine Br.t ?_ ?_;(focus first|assumption|lia);cbv)|(refine Br.f ?_ ?_;(focus first|assumption|lia);cbv)|(refine Br.mk (fun _=>?_) (fun _=>?_)<;>cbv)|(refine Need.mk ?_ ?_;rotate_left;cbv)|(refine R0 ?_;cbv))
   all_goals first|lia|exact⟨x2,x1,trivial⟩
  ·obtain⟨y1,y2⟩:=pullE_ok ⟨hm,hk⟩ hb
   have x1:O.o pullE f a m=0:=by simp only [O.h];exact y1
   obtain⟨d,hd⟩:∃ d:Nat,d=(a-f.base).toNat:=⟨_,rfl⟩
   obtain⟨mm,hmm⟩:∃ d:Nat,d=m.toNat:=⟨_,rfl⟩
   have x2:O.o (Chs.enc O) (O.o pullR f a m)=Chs.enc O ((f.changes.drop d).take mm):=by
    simp only [O.h];rw[y2,pullF,hd,hmm]
   clear hrt y1 y2
   refine go (fn:=Proofs.Tryz.f155) (n:=58) (rv:=[ResultVar.tmp 6,ResultVar.tmp 7]) rfl (by decide) rfl (by decide +kernel) rfl rfl (by simp) fun F L C=>?_
   cbv
   (repeat' first|(refine Na ?_ fun _ _=>?_;(focus lia);cbv)|(refine Nl fun _ _ hq=>?_;(try simp only [lenS] at hq);cbv)|(refine Nm fun _ _=>?_;cbv)|(refine Br.t ?_ ?_;(focus first|assumption|lia);cbv)|(refine Br.f ?_ ?_;(focus first|assumption|lia);cbv)|(refine Br.mk (fun _=>?_) (fun _=>?_)<;>cbv)|(refine Need.mk ?_ ?_;rotate_left;cbv)|(refine R0 ?_;cbv))
   all_goals try lia
   refine LoopThen.mk (C.loopAt (ι:=Nat) [(8,9),(31,59)] (fun k=>[(7,.int .i64 0),(8,.ref 2048),(9,.int .i64 k),(30,.top)]) (fun k=>[(2048,.arr 0 none 4 (O.o (partC O f.changes d) k)),(320,.box (f.enc O))])
    (fun k=>k≤f.changes.length∧k≤d+mm) (fun k=>N-k) (by decide +kernel) (Start.mk z [] [] ⟨by lia,by lia⟩ ?_) ?_)
   ·cbv
    (repeat' apply And.intro)<;>first|exact True.intro|exact WkR.refl _|rfl|(exact .of_eq (by simp only [O.h];rw[hz,partC];simp [Chs.enc]))|lia|trace_state
   intro k g
   cbv
   have g1:k≤f.changes.length:=g.1
   have g2:k≤d+mm:=g.2
   clear g
   have hpl:(O.o (partC O f.changes d) k).length=k-d:=by rw[O.h,partC_len O _ _ _ g1]
   by_cases hkl:k<f.changes.length∧k-d<mm
   ·obtain⟨x,hx⟩:∃ x,f.changes[k]?=some x:=⟨f.changes[k]'hkl.1,by simp⟩
    have hpos:=(hall k x hkl.1 hx).1
    have hyes:d≤k→O.o (partC O f.changes d) (k+1)=O.o (partC O f.changes d) k++[x.enc O]:=fun h=>by simp only [O.h];exact partC_succ hx h
    have hno:k<d→O.o (partC O f.changes d) (k+1)=O.o (partC O f.changes d) k:=fun h=>by simp only [O.h];exact partC_same h
    clear hall
    (repeat' first|(refine Na ?_ fun _ _=>?_;(focus lia);cbv)|(refine Ex.known O (Change.enc O) rfl hx ?_ ?_;(focus lia);cbv)|(fail)|(refine Back.up [(2048,.loc 3904)] [] ?_ ?_ fun _ _=>?_;rotate_left 2;cbv;refine And.intro ?_ ?_)|(refine Back.up [] [] ?_ ?_ fun _ _=>?_;rotate_left 2;cbv;refine And.intro ?_ ?_)|(refine Nl fun _ _ hq=>?_;(try simp only [lenS] at hq);cbv)|(refine Nm fun _ _=>?_;cbv)|(refine Br.t ?_ ?_;(focus first|assumption|lia);cbv)|(refine Br.f ?_ ?_;(focus first|assumption|lia);cbv)|(refine Br.mk (fun _=>?_) (fun _=>?_)<;>cbv)|(refine Need.mk ?_ ?_;rotate_left;cbv)|(refine R0 ?_;cbv))
    all_goals(repeat' apply And.intro)
    all_goals try first
     | exact True.intro
     | exact WkR.refl _
     | (simp only [List.length_cons,List.length_nil] at *;clear hx hyes hno x2;lia)
    all_goals first
     | (rename_i R eR n1 e1 k2 ek2;subst ek2;exact .of_eq (by rw[eR];exact hyes (by clear hx hyes hno x2;lia)))
     | (rename_i n1 e1 k2 ek2;subst ek2;exact .of_eq (hno (by clear hx hyes hno x2;lia)))
     | trace_state
   ·have hfin:O.o (Chs.enc O) (O.o pullR f a m)=O.o (partC O f.changes d) k:=by
     rw[x2,O.h]
     refine(partC_end ?_).symm
     omega
    clear hall
    (repeat' first|(refine Na ?_ fun _ _=>?_;(focus lia);cbv)|(refine RetThen.mk [] [2048] ?_;cbv)|(refine Nl fun _ _ hq=>?_;(try simp only [lenS] at hq);cbv)|(refine Nm fun _ _=>?_;cbv)|(refine Br.t ?_ ?_;(focus first|assumption|lia);cbv)|(refine Br.f ?_ ?_;(focus first|assumption|lia);cbv)|(refine Br.mk (fun _=>?_) (fun _=>?_)<;>cbv)|(refine Need.mk ?_ ?_;rotate_left;cbv)|(refine R0 ?_;cbv))
    all_goals try(clear hfin x2;lia)
    all_goals first
     | (rename_i R eR;exact⟨.of_eq (by rw[eR];exact hfin),x1,trivial⟩)
     | trace_state
 ·obtain⟨x2,x1⟩:=hrt (pullE_bad fun h=>hk h.2)
  clear hrt hall
  refine go (fn:=Proofs.Tryz.f155) (n:=58) (rv:=[ResultVar.tmp 6,ResultVar.tmp 7]) rfl (by decide) rfl (by decide +kernel) rfl rfl (by simp) fun F L C=>?_
  cbv
  (repeat' first|(refine Na ?_ fun _ _=>?_;(focus lia);cbv)|(refine Nl fun _ _ hq=>?_;(try simp only [lenS] at hq);cbv)|(refine Nm fun _ _=>?_;cbv)|(refine Br.t ?_ ?_;(focus first|assumption|lia);cbv)|(refine Br.f ?_ ?_;(focus first|assumption|lia);cbv)|(refine Br.mk (fun _=>?_) (fun _=>?_)<;>cbv)|(refine Need.mk ?_ ?_;rotate_left;cbv)|(refine R0 ?_;cbv))
  all_goals first|lia|exact⟨x2,x1,trivial⟩
set_option maxHeartbeats 4000000 in
theorem rread_fn (O:Opq) (f:Feed) (n:ByteArray) (m:Int) (hm:mayF f=true):Fn prog 154 [.agg (f.enc O),.str n,.int .i64 m] [] [.sl false 0 false 4 (O.o (Chs.enc O) (O.o readR f n m)),.int .i64 (O.o readAt f n m),.int .i64 (O.o readE f n m)] []:=by
 have hl2:=Subs.len O f.subs
 have hso:=mayF_subs hm
 have hs8:f.subs.length≤8:=(mayF_iff.1 hm).1.2.2.2.2
 have hf:O.o (findI (hasK Sub.name n)) f.subs=if getK Sub.name f.subs n=true then(posK Sub.name f.subs n:Int) else -1:=by rw[O.h];exact findI_hasK hso
 cases hg:getK Sub.name f.subs n with
 | false =>
  rw[hg,if_neg (by simp)] at hf
  obtain⟨x1,x2,x3⟩:=readE_none (m:=m) hm hg
  refine go (fn:=Proofs.Tryz.f154) (n:=36) (rv:=[ResultVar.tmp 6,ResultVar.tmp 7,ResultVar.tmp 8]) rfl (by decide) rfl (by decide +kernel) rfl rfl (by simp) fun F L C=>?_
  cbv
  (repeat' first|(refine Na ?_ fun _ _=>?_;(focus lia);cbv)|(refine CallThen.mk _ _ (C.fn (ratS_fn O f n (by lia))) ?_;cbv)|(refine Nl fun _ _ hq=>?_;(try simp only [lenS] at hq);cbv)|(refine Nm fun _ _=>?_;cbv)|(refine Br.t ?_ ?_;(focus first|assumption|lia);cbv)|(refine Br.f ?_ ?_;(focus first|assumption|lia);cbv)|(refine Br.mk (fun _=>?_) (fun _=>?_)<;>cbv)|(refine Need.mk ?_ ?_;rotate_left;cbv)|(refine R0 ?_;cbv))
  all_goals try lia
  all_goals simp only [O.h];exact⟨by rw[x2];rfl,x3,x1,trivial⟩
 | true =>
  rw[hg,if_pos rfl] at hf
  obtain⟨x1,x2,x3⟩:=readE_at (m:=m) hm hg
  obtain⟨s,hs1,hs2⟩:=posK_there hso hg
  have hsp:=subPos_at hs1
  have hat:=ratS_fn O f n (by lia)
  obtain⟨k,hk⟩:∃ k,k=posK Sub.name f.subs n:=⟨_,rfl⟩
  have hpl:posK Sub.name f.subs n<f.subs.length:=(List.getElem?_eq_some_iff.1 hs1).1
  rw[← hk] at hs1 hpl hf
  rw[hf] at hat
  have hpu:=rpull_fn O f s.pos m hm
  refine go (fn:=Proofs.Tryz.f154) (n:=36) (rv:=[ResultVar.tmp 6,ResultVar.tmp 7,ResultVar.tmp 8]) rfl (by decide) rfl (by decide +kernel) rfl rfl (by simp) fun F L C=>?_
  cbv
  (repeat' first|(refine Na ?_ fun _ _=>?_;(focus lia);cbv)|(refine CallThen.mk _ _ (C.fn (hat)) ?_;cbv)|(refine Ex.known O Sub.enc rfl hs1 ?_ ?_;(focus lia);cbv)|(refine CallThen.mk _ _ (C.fn (hpu)) ?_;cbv)|(refine Nl fun _ _ hq=>?_;(try simp only [lenS] at hq);cbv)|(refine Nm fun _ _=>?_;cbv)|(refine Br.t ?_ ?_;(focus first|assumption|lia);cbv)|(refine Br.f ?_ ?_;(focus first|assumption|lia);cbv)|(refine Br.mk (fun _=>?_) (fun _=>?_)<;>cbv)|(refine Need.mk ?_ ?_;rotate_left;cbv)|(refine R0 ?_;cbv))
  all_goals try first
   | lia
  ·rename_i h
   simp only [O.h] at h ⊢
   rw[hsp] at x1 x2 x3
   rw[h] at x1 x3
   exact⟨.of_eq (by rw[x2]),by rw[x3];rfl,x1,trivial⟩
  ·rename_i h
   simp only [O.h] at h ⊢
   rw[hsp] at x1 x2 x3
   rw[if_neg h] at x3
   exact⟨by rw[x2,pullR,if_neg h];rfl,x3,x1,trivial⟩
end Go.Sym
