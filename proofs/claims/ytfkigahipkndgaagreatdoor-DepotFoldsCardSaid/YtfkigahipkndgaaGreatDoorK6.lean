/- Folds by the document; alike. -/
import Derived.Test.YtfkigahipkndgaaGreatDoorK4
set_option linter.all false
set_option linter.unusedVariables false
set_option linter.unusedSimpArgs false
namespace Go.Sym
open Go Go.Proofs.Tryz
set_option maxRecDepth 100000
theorem Nms.snoc (O:Opq) (l:List Ndoc) (k:ByteArray) (d:Doc):O.o (Nms.enc O) (l++[⟨k,d⟩])=O.o (Nms.enc O) l++[[.str k,.sl false 0 false 6 (O.o Doc.enc d)]]:=by
 simp only [O.h (Nms.enc O)];simp [Nms.enc,Ndoc.enc]
theorem rfold_put {c:Change} {l:List Ndoc} {i:Nat} {x:Ndoc} (h:l[i]?=some x):rfoldL c true (l.drop i)=(if x.key≠c.key then[x] else[])++rfoldL c true (l.drop (i+1)):=by
 obtain⟨hi,rfl⟩:=List.getElem?_eq_some_iff.1 h
 rw[List.drop_eq_getElem_cons hi,rfoldL,if_neg (by simp),Bool.true_or];rfl
theorem rfold_lt {c:Change} {l:List Ndoc} {i:Nat} {x:Ndoc} (h:l[i]?=some x) (hs:slt x.key c.key):rfoldL c false (l.drop i)=[x]++rfoldL c false (l.drop (i+1)):=by
 obtain⟨hi,rfl⟩:=List.getElem?_eq_some_iff.1 h
 rw[List.drop_eq_getElem_cons hi,rfoldL,if_neg (by simp [hs]),if_pos (slt_ne hs)]
 simp [hs]
theorem rfold_ge {c:Change} {l:List Ndoc} {i:Nat} {x:Ndoc} (h:l[i]?=some x) (hs:¬ slt x.key c.key):rfoldL c false (l.drop i)=[⟨c.key,c.doc⟩]++(if x.key≠c.key then[x] else[])++rfoldL c true (l.drop (i+1)):=by
 obtain⟨hi,rfl⟩:=List.getElem?_eq_some_iff.1 h
 rw[List.drop_eq_getElem_cons hi,rfoldL,if_pos ⟨rfl,hs⟩]
 simp [hs]
set_option maxHeartbeats 2000000 in
theorem rfold_fn (O:Opq) (l:List Ndoc) (c:Change) (hl:l.length≤1099511627) (hs:sortedK Ndoc.key l):Fn prog 33 [.sl false 0 false 2 (O.o (Nms.enc O) l),.agg (c.enc O)] [] [.sl false 0 false 2 (O.o (Nms.enc O) (O.o (foldD l) c))] []:=by
 have hlen:=Nms.len O l
 have hre:=rfold_eq (c:=c) hs
 obtain⟨T,eT⟩:∃ T,T=O.o (foldD l) c:=⟨_,rfl⟩
 have hT:rfoldL c (!c.has) l=T:=by rw[hre,eT,O.h]
 rw[← eT]
 obtain⟨N,hN⟩:∃ N:Nat,N=l.length:=⟨_,rfl⟩
 obtain⟨z,hz⟩:∃ z:Nat,z=0:=⟨_,rfl⟩
 obtain⟨w,hw⟩:∃ w:List Ndoc,w=[]:=⟨_,rfl⟩
 have hw0:O.o (Nms.enc O) w=[]:=by rw[hw,O.h];rfl
 clear hre eT hs
 obtain⟨cp,ck,ch,cd⟩:=c
 obtain⟨p0,hp0⟩:∃ p:Bool,p=!ch:=⟨_,rfl⟩
 replace hT:rfoldL ⟨cp,ck,ch,cd⟩ (!ch) l=T:=hT
 rw[← hp0] at hT
 obtain⟨c,hc⟩:∃ c:Change,c=⟨cp,ck,ch,cd⟩:=⟨_,rfl⟩
 rw[← hc] at hT
 have hck:c.key=ck:=by rw[hc]
 have hcd:c.doc=cd:=by rw[hc]
 have hat1:=fun {i:Nat} {x:Ndoc} (h:l[i]?=some x)=>rfold_put (c:=c) h
 have hat2:=fun {i:Nat} {x:Ndoc} (h:l[i]?=some x)=>rfold_lt (c:=c) h
 have hat3:=fun {i:Nat} {x:Ndoc} (h:l[i]?=some x)=>rfold_ge (c:=c) h
 rw[hck] at hat1 hat2 hat3
 rw[hcd] at hat3
 have hnil:∀ p:Bool,rfoldL c p []=if p=false then[⟨ck,cd⟩] else[]:=fun p=>by rw[rfoldL,hck,hcd]
 have hsn:=fun done k d=>Nms.snoc O done k d
 cases ch
 all_goals
  refine go (fn:=Proofs.Tryz.f33) (n:=62) (rv:=[ResultVar.tmp 4]) rfl (by decide) rfl (by decide +kernel) rfl rfl (by simp) fun F L C=>?_
  cbv
  refine LoopThen.mk (C.loopAt (ι:=Nat×Bool×List Ndoc) [(5,7),(12,52)] (fun x=>[(5,.ref 50),(6,.bool x.2.1),(7,.int .i64 x.1),(8,.top)]) (fun x=>[(50,.arr 0 none 2 (O.o (Nms.enc O) x.2.2)),(320,.box [.int .i64 cp,.str ck,.bool (!p0),.sl false 0 false 6 (O.o Doc.enc cd)])])
   (fun x=>x.1≤N∧x.2.2.length≤2 * x.1∧x.2.2++rfoldL c x.2.1 (l.drop x.1)=T) (fun x=>N-x.1) (by decide +kernel) (Start.mk (z,p0,w) [(50,.loc 640)] [] ⟨by show z≤N;omega,by show w.length≤2 * z;rw[hw];simp,by rw[hz,hw];exact hT⟩ ?_) ?_)
  ·cbv
   (repeat' apply And.intro)<;>first|exact True.intro|exact WkR.refl _|rfl|exact .of_eq hw0|(rw[hp0];rfl)|(rw[hp0])|lia|trace_state
  intro y g
  cbv
  obtain⟨i,p,done⟩:=y
  have g1:i≤N:=g.1
  have g2:done.length≤2 * i:=g.2.1
  have g3:done++rfoldL c p (l.drop i)=T:=g.2.2
  have hdl:=Nms.len O done
  clear g hT
  by_cases hi:i<l.length
  ·obtain⟨x,hx⟩:∃ x,l[i]?=some x:=⟨l[i],by simp [hi]⟩
   have hat1:=hat1 hx
   have hat2:=hat2 hx
   have hat3:=hat3 hx
   clear hnil
   obtain⟨xk,xd⟩:=x
   replace hat1:rfoldL c true (l.drop i)=(if xk≠ck then[⟨xk,xd⟩] else[])++rfoldL c true (l.drop (i+1)):=hat1
   replace hat2:slt xk ck→rfoldL c false (l.drop i)=[⟨xk,xd⟩]++rfoldL c false (l.drop (i+1)):=hat2
   replace hat3:¬ slt xk ck→rfoldL c false (l.drop i)=[⟨ck,cd⟩]++(if xk≠ck then[⟨xk,xd⟩] else[])++rfoldL c true (l.drop (i+1)):=hat3
   cases p with
   | true =>
    rw[hat1] at g3
    clear hat1 hat2 hat3
    by_cases hk:xk=ck
    ·rw[if_neg (by simp [hk])] at g3
     have g3:done++rfoldL c true (l.drop (i+1))=T:=by simpa using g3
     (repeat' first|(refine Na ?_ fun _ _=>?_;(focus lia);cbv)|(refine Ex.known O (Ndoc.enc O) rfl hx ?_ ?_;(focus lia);cbv)|(refine Back.to (i+1,true,done) [] [] ?_ fun _ _=>?_;rotate_left;cbv)|(refine Nl fun _ _ hq=>?_;(try simp only [lenS] at hq);cbv)|(refine Nm fun _ _=>?_;cbv)|(refine Br.t ?_ ?_;(focus first|assumption|lia);cbv)|(refine Br.f ?_ ?_;(focus first|assumption|lia);cbv)|(refine Br.mk (fun _=>?_) (fun _=>?_)<;>cbv)|(refine Need.mk ?_ ?_;rotate_left;cbv)|(refine R0 ?_;cbv))
     all_goals try first
      | (clear hsn hx g3;lia)
      | exact⟨⟨by show i+1≤N;omega,by show done.length≤2 * (i+1);omega,g3⟩,by show N-(i+1)<N-i;omega⟩
      | (exfalso;rename_i h;exact h hk)
     all_goals(rename_i y ey;subst ey;(repeat' apply And.intro)<;>first|exact True.intro|exact WkR.refl _|rfl|(clear hsn hx g3;dsimp only;lia)|trace_state)
    ·rw[if_pos hk] at g3
     have g3:(done++[⟨xk,xd⟩])++rfoldL c true (l.drop (i+1))=T:=by simpa using g3
     have hsn:=hsn done xk xd
     have hl2:(done++[(⟨xk,xd⟩:Ndoc)]).length≤2 * (i+1):=by simp;omega
     obtain⟨d2,ed⟩:∃ d,d=done++[(⟨xk,xd⟩:Ndoc)]:=⟨_,rfl⟩
     rw[← ed] at g3 hsn hl2
     clear ed
     (repeat' first|(refine Na ?_ fun _ _=>?_;(focus lia);cbv)|(refine Ex.known O (Ndoc.enc O) rfl hx ?_ ?_;(focus lia);cbv)|(refine Back.to (i+1,true,d2) [(50,.loc 3456)] [] ?_ fun _ _=>?_;rotate_left;cbv)|(refine Nl fun _ _ hq=>?_;(try simp only [lenS] at hq);cbv)|(refine Nm fun _ _=>?_;cbv)|(refine Br.t ?_ ?_;(focus first|assumption|lia);cbv)|(refine Br.f ?_ ?_;(focus first|assumption|lia);cbv)|(refine Br.mk (fun _=>?_) (fun _=>?_)<;>cbv)|(refine Need.mk ?_ ?_;rotate_left;cbv)|(refine R0 ?_;cbv))
     all_goals try first
      | (clear hsn hx g3;lia)
      | (simp only [List.length_cons,List.length_nil];clear hsn hx g3;lia)
      | exact⟨⟨by show i+1≤N;omega,hl2,g3⟩,by show N-(i+1)<N-i;omega⟩
      | (exfalso;exact hk (by assumption))
     all_goals(rename_i y ey;subst ey;(repeat' apply And.intro)<;>first|exact True.intro|exact WkR.refl _|rfl|(refine WkR.of_eq (hsn.trans ?_);symm;assumption)|(clear hsn hx g3;dsimp only;lia)|trace_state)
   | false =>
    by_cases hlt:slt xk ck
    ·rw[hat2 hlt] at g3
     clear hat1 hat2 hat3
     have hk:=slt_ne hlt
     have g3:(done++[⟨xk,xd⟩])++rfoldL c false (l.drop (i+1))=T:=by simpa using g3
     have hsn:=hsn done xk xd
     have hl2:(done++[(⟨xk,xd⟩:Ndoc)]).length≤2 * (i+1):=by simp;omega
     obtain⟨d2,ed⟩:∃ d,d=done++[(⟨xk,xd⟩:Ndoc)]:=⟨_,rfl⟩
     rw[← ed] at g3 hsn hl2
     clear ed
     (repeat' first|(refine Na ?_ fun _ _=>?_;(focus lia);cbv)|(refine Ex.known O (Ndoc.enc O) rfl hx ?_ ?_;(focus lia);cbv)|(refine Back.to (i+1,false,d2) [(50,.loc 3456)] [] ?_ fun _ _=>?_;rotate_left;cbv)|(refine Nl fun _ _ hq=>?_;(try simp only [lenS] at hq);cbv)|(refine Nm fun _ _=>?_;cbv)|(refine Br.t ?_ ?_;(focus first|assumption|lia);cbv)|(refine Br.f ?_ ?_;(focus first|assumption|lia);cbv)|(refine Br.mk (fun _=>?_) (fun _=>?_)<;>cbv)|(refine Need.mk ?_ ?_;rotate_left;cbv)|(refine R0 ?_;cbv))
     all_goals try first
      | (clear hsn hx g3;lia)
      | (simp only [List.length_cons,List.length_nil];clear hsn hx g3;lia)
      | exact⟨⟨by show i+1≤N;omega,hl2,g3⟩,by show N-(i+1)<N-i;omega⟩
      | (exfalso;exact hk (by assumption))
      | (exfalso;rename_i h;exact h hlt)
     all_goals(rename_i y ey;subst ey;(repeat' apply And.intro)<;>first|exact True.intro|exact WkR.refl _|rfl|(refine WkR.of_eq (hsn.trans ?_);symm;assumption)|(clear hsn hx g3;dsimp only;lia)|trace_state)
    ·rw[hat3 hlt] at g3
     clear hat1 hat2 hat3
     have hs1:=hsn done ck cd
     by_cases hk:xk=ck
     ·rw[if_neg (by simp [hk])] at g3
      have g3:(done++[⟨ck,cd⟩])++rfoldL c true (l.drop (i+1))=T:=by simpa using g3
      have hl2:(done++[(⟨ck,cd⟩:Ndoc)]).length≤2 * (i+1):=by simp;omega
      obtain⟨d2,ed⟩:∃ d,d=done++[(⟨ck,cd⟩:Ndoc)]:=⟨_,rfl⟩
      rw[← ed] at g3 hs1 hl2
      clear ed hsn
      (repeat' first|(refine Na ?_ fun _ _=>?_;(focus lia);cbv)|(refine Ex.known O (Ndoc.enc O) rfl hx ?_ ?_;(focus lia);cbv)|(refine Back.to (i+1,true,d2) [(50,.loc 2496)] [] ?_ fun _ _=>?_;rotate_left;cbv)|(refine Nl fun _ _ hq=>?_;(try simp only [lenS] at hq);cbv)|(refine Nm fun _ _=>?_;cbv)|(refine Br.t ?_ ?_;(focus first|assumption|lia);cbv)|(refine Br.f ?_ ?_;(focus first|assumption|lia);cbv)|(refine Br.mk (fun _=>?_) (fun _=>?_)<;>cbv)|(refine Need.mk ?_ ?_;rotate_left;cbv)|(refine R0 ?_;cbv))
      all_goals try first
       | (clear hs1 hx g3;lia)
       | (simp only [List.length_cons,List.length_nil];clear hs1 hx g3;lia)
       | exact⟨⟨by show i+1≤N;omega,hl2,g3⟩,by show N-(i+1)<N-i;omega⟩
       | (exfalso;exact hlt (by assumption))
       | (exfalso;rename_i h;exact h hk)
      all_goals(rename_i y ey;subst ey;(repeat' apply And.intro)<;>first|exact True.intro|exact WkR.refl _|rfl|(refine WkR.of_eq (hs1.trans ?_);symm;assumption)|(clear hs1 hx g3;dsimp only;lia)|trace_state)
     ·rw[if_pos hk] at g3
      have hs2:=hsn (done++[(⟨ck,cd⟩:Ndoc)]) xk xd
      rw[hs1] at hs2
      have g3:(done++[⟨ck,cd⟩]++[⟨xk,xd⟩])++rfoldL c true (l.drop (i+1))=T:=by simpa using g3
      have hl2:(done++[(⟨ck,cd⟩:Ndoc)]++[(⟨xk,xd⟩:Ndoc)]).length≤2 * (i+1):=by simp;omega
      obtain⟨d2,ed⟩:∃ d,d=done++[(⟨ck,cd⟩:Ndoc)]++[(⟨xk,xd⟩:Ndoc)]:=⟨_,rfl⟩
      rw[← ed] at g3 hs2 hl2
      clear ed hsn hs1
      (repeat' first|(refine Na ?_ fun _ _=>?_;(focus lia);cbv)|(refine Ex.known O (Ndoc.enc O) rfl hx ?_ ?_;(focus lia);cbv)|(refine Back.to (i+1,true,d2) [(50,.loc 3456)] [] ?_ fun _ _=>?_;rotate_left;cbv)|(refine Nl fun _ _ hq=>?_;(try simp only [lenS] at hq);cbv)|(refine Nm fun _ _=>?_;cbv)|(refine Br.t ?_ ?_;(focus first|assumption|lia);cbv)|(refine Br.f ?_ ?_;(focus first|assumption|lia);cbv)|(refine Br.mk (fun _=>?_) (fun _=>?_)<;>cbv)|(refine Need.mk ?_ ?_;rotate_left;cbv)|(refine R0 ?_;cbv))
      all_goals try first
       | (clear hs2 hx g3;lia)
       | (simp only [List.length_cons,List.length_nil];clear hs2 hx g3;lia)
       | exact⟨⟨by show i+1≤N;omega,hl2,g3⟩,by show N-(i+1)<N-i;omega⟩
       | (exfalso;exact hlt (by assumption))
       | (exfalso;exact hk (by assumption))
      all_goals try(subst_vars;simp only [List.length_append,List.length_cons,List.length_nil];clear hs2 hx g3;lia)
      all_goals(rename_i y ey;subst ey;(repeat' apply And.intro)<;>first|exact True.intro|exact WkR.refl _|rfl|(refine WkR.of_eq (hs2.trans ?_);clear hs2 hx g3 g2;subst_vars;rfl)|(clear hs2 hx g3;dsimp only;lia)|trace_state)
  ·have hd:l.drop i=[]:=List.drop_of_length_le (by omega)
   rw[hd,hnil] at g3
   clear hnil hat1 hat2 hat3
   have hs1:=hsn done ck cd
   clear hsn
   cases p with
   | true =>
    have g3:done=T:=by simpa using g3
    subst g3
    (repeat' first|(refine Na ?_ fun _ _=>?_;(focus lia);cbv)|(refine RetThen.mk [] [50] ?_;cbv)|(refine Nl fun _ _ hq=>?_;(try simp only [lenS] at hq);cbv)|(refine Nm fun _ _=>?_;cbv)|(refine Br.t ?_ ?_;(focus first|assumption|lia);cbv)|(refine Br.f ?_ ?_;(focus first|assumption|lia);cbv)|(refine Br.mk (fun _=>?_) (fun _=>?_)<;>cbv)|(refine Need.mk ?_ ?_;rotate_left;cbv)|(refine R0 ?_;cbv))
    all_goals first
     | (exfalso;lia)
     | (refine Nm fun rs e=>⟨.of_eq e.symm,by cbv⟩;done)
     | (refine⟨.of_eq ?_,trivial⟩;symm;assumption)
     | trace_state
   | false =>
    have g3:done++[⟨ck,cd⟩]=T:=by simpa using g3
    rw[g3] at hs1
    clear g3
    (repeat' first|(refine Na ?_ fun _ _=>?_;(focus lia);cbv)|(refine RetThen.mk [] [4096] ?_;cbv)|(refine Nl fun _ _ hq=>?_;(try simp only [lenS] at hq);cbv)|(refine Nm fun _ _=>?_;cbv)|(refine Br.t ?_ ?_;(focus first|assumption|lia);cbv)|(refine Br.f ?_ ?_;(focus first|assumption|lia);cbv)|(refine Br.mk (fun _=>?_) (fun _=>?_)<;>cbv)|(refine Need.mk ?_ ?_;rotate_left;cbv)|(refine R0 ?_;cbv))
    all_goals first
     | (exfalso;clear hs1;lia)
     | (simp only [List.length_cons,List.length_nil];clear hs1;lia)
     | (refine⟨.of_eq (hs1.trans ?_),trivial⟩;subst_vars;rfl)
     | (refine Nm fun rs e=>⟨.of_eq (hs1.trans ?_),by cbv⟩;rw[e];symm;assumption)
     | trace_state
end Go.Sym
