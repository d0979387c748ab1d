/- Entries: the document's May; index.Find. -/
import Derived.Test.YtfdbdalnpdgfmaaGreatDoorK19
set_option linter.all false
set_option linter.unusedVariables false
set_option linter.unusedSimpArgs false
namespace Go.Sym
open Go Go.Proofs.Tryz
set_option maxRecDepth 100000
open Classical in
noncomputable def lessPb (p q:PairK):Bool:=decide (lessP p q)
open Classical in
theorem lessPb_iff {p q:PairK}:lessPb p q=true ↔ lessP p q:=by rw[lessPb,decide_eq_true_eq]
theorem rless_fn (O:Opq) (p q:PairK):Fn prog 29 [.agg p.enc,.agg q.enc] [] [.bool (O.o (lessPb p) q)] []:=by
 obtain⟨a,b⟩:=p
 obtain⟨c,d⟩:=q
 have h:O.o (lessPb ⟨a,b⟩) ⟨c,d⟩=true ↔ slt a c∨(a=c∧slt b d):=by rw[O.h];exact lessPb_iff
 obtain⟨R,hR⟩:∃ R,R=O.o (lessPb ⟨a,b⟩) ⟨c,d⟩:=⟨_,rfl⟩
 rw[← hR] at h ⊢
 clear hR
 by_cases q:slt a c∨(a=c∧slt b d)
 ·obtain rfl:=h.2 q
  clear h
  refine go (fn:=Proofs.Tryz.f29) (n:=22) (rv:=[ResultVar.tmp 4]) rfl (by decide) rfl (by decide +kernel) rfl rfl (by simp) fun F L C=>?_
  cbv
  (repeat' first|(refine Na ?_ fun _ _=>?_;(focus lia);cbv)|(refine Nl fun _ _ hq=>?_;(try simp only [lenS] at hq);cbv)|(refine Nm fun _ _=>?_;cbv)|(refine Br.t ?_ ?_;(focus first|assumption|lia);cbv)|(refine Br.f ?_ ?_;(focus first|assumption|lia);cbv)|(refine Br.mk (fun _=>?_) (fun _=>?_)<;>cbv)|(refine Need.mk ?_ ?_;rotate_left;cbv)|(refine R0 ?_;cbv))
  all_goals first
   | exact⟨rfl,trivial⟩
   | (exfalso;rcases q with q | ⟨q1,q2⟩<;>contradiction)
   | trace_state
 ·have:R=false:=by cases R;rfl;exact absurd (h.1 rfl) q
  subst this
  clear h
  refine go (fn:=Proofs.Tryz.f29) (n:=22) (rv:=[ResultVar.tmp 4]) rfl (by decide) rfl (by decide +kernel) rfl rfl (by simp) fun F L C=>?_
  cbv
  (repeat' first|(refine Na ?_ fun _ _=>?_;(focus lia);cbv)|(refine Nl fun _ _ hq=>?_;(try simp only [lenS] at hq);cbv)|(refine Nm fun _ _=>?_;cbv)|(refine Br.t ?_ ?_;(focus first|assumption|lia);cbv)|(refine Br.f ?_ ?_;(focus first|assumption|lia);cbv)|(refine Br.mk (fun _=>?_) (fun _=>?_)<;>cbv)|(refine Need.mk ?_ ?_;rotate_left;cbv)|(refine R0 ?_;cbv))
  all_goals first
   | exact⟨rfl,trivial⟩
   | (exfalso;first|exact q (.inl (by assumption))|exact q (.inr ⟨by assumption,by assumption⟩))
   | trace_state
theorem rmayP_fn (O:Opq) (l:List PairK) (hl:l.length≤9223372036854775807):Fn prog 15 [.sl false 0 false 2 (O.o Prs.enc l)] [] [.bool (O.o mayPb l)] []:=by
 have hlen:=Prs.len O l
 obtain⟨R,eR⟩:∃ R,R=O.o mayPb l:=⟨_,rfl⟩
 have hRy:mayP l→R=true:=fun h=>by rw[eR,O.h];exact mayPb_iff.2 h
 have hRn:¬ mayP l→R=false:=fun h=>by rw[eR,O.h];cases e:mayPb l;rfl;exact absurd (mayPb_iff.1 e) h
 rw[← eR]
 clear eR
 obtain⟨z,hz⟩:∃ z:Nat,z=1:=⟨_,rfl⟩
 obtain⟨N,hN⟩:∃ N:Nat,N=l.length:=⟨_,rfl⟩
 have hz0:mayTo l z:=by rw[hz];exact mayTo_one l
 refine go (fn:=Proofs.Tryz.f15) (n:=20) (rv:=[ResultVar.tmp 2]) rfl (by decide) rfl (by decide +kernel) rfl rfl (by simp) fun F L C=>?_
 cbv
 refine LoopThen.mk (C.loopAt (ι:=Nat) [(2,20)] (fun k=>[(3,.int .i64 k)]) (fun _=>[]) (fun k=>1≤k∧k≤l.length+1∧mayTo l k) (fun k=>(N+1)-k) (by decide +kernel) (Start.mk z [] [] ⟨by omega,by omega,hz0⟩ ?_) ?_)
 ·cbv
  (repeat' apply And.intro)<;>first|exact True.intro|exact WkR.refl _|rfl|(clear hRn hRy hz0;lia)|trace_state
 intro k g
 have g0:1≤k:=g.1
 have g1:k≤l.length+1:=g.2.1
 have g2:mayTo l k:=g.2.2
 clear g hz0
 match k,g0 with
 | m+1,_ =>
 cbv
 by_cases hk:m+1<l.length
 ·obtain⟨x,hx⟩:∃ x,l[m+1]?=some x:=⟨l[m+1],by simp [hk]⟩
  obtain⟨y,hy⟩:∃ x,l[m]?=some x:=⟨l[m]'(by omega),by simp⟩
  have ko:=rless_fn O y x
  rw[O.h] at ko
  have hno:lessPb y x=false→R=false:=fun h=>hRn (mayP_no hy hx (fun k=>by rw[lessPb_iff.2 k] at h;cases h))
  have hst:lessPb y x=true→mayTo l (m+1+1):=fun h=>mayTo_step g2 hy hx (lessPb_iff.1 h)
  obtain⟨S,eS⟩:∃ S,S=lessPb y x:=⟨_,rfl⟩
  rw[← eS] at ko hno hst
  clear hRy hRn g2 eS
  obtain⟨xa,xb⟩:=x
  obtain⟨ya,yb⟩:=y
  (repeat' first|(refine Na ?_ fun _ _=>?_;(focus lia);cbv)|(refine Ex.pair O hx ?_ ?_;(focus lia);cbv)|(refine Ex.pair O hy ?_ ?_;(focus lia);cbv)|(refine CallThen.bool (C.fn (ko)) (fun _=>?_) (fun _=>?_)<;>cbv)|(refine Back.up [] [] ?_ ?_ fun _ _=>?_;rotate_left 2;cbv;refine And.intro ?_ ?_)|(refine Nl fun _ _ hq=>?_;(try simp only [lenS] at hq);cbv)|(refine Nm fun _ _=>?_;cbv)|(refine Br.t ?_ ?_;(focus first|assumption|lia);cbv)|(refine Br.f ?_ ?_;(focus first|assumption|lia);cbv)|(refine Br.mk (fun _=>?_) (fun _=>?_)<;>cbv)|(refine Need.mk ?_ ?_;rotate_left;cbv)|(refine R0 ?_;cbv))
  all_goals first
   | exact⟨hno (by assumption),trivial⟩
   | exact⟨(hno (by assumption)).symm,trivial⟩
   | exact⟨by omega,by omega,hst (by assumption)⟩
   | ((repeat' apply And.intro)<;>first|exact True.intro|exact WkR.refl _|exact hst (by assumption)|(clear hst hno ko hx hy;lia))
   | (exfalso;clear hst hno ko hx hy;lia)
   | (clear hst hno ko hx hy;lia)
   | trace_state
 ·have hyes:=hRy (mayP_end g2 (by omega))
  clear hRy hRn g2
  (repeat' first|(refine Na ?_ fun _ _=>?_;(focus lia);cbv)|(refine Nl fun _ _ hq=>?_;(try simp only [lenS] at hq);cbv)|(refine Nm fun _ _=>?_;cbv)|(refine Br.t ?_ ?_;(focus first|assumption|lia);cbv)|(refine Br.f ?_ ?_;(focus first|assumption|lia);cbv)|(refine Br.mk (fun _=>?_) (fun _=>?_)<;>cbv)|(refine Need.mk ?_ ?_;rotate_left;cbv)|(refine R0 ?_;cbv))
  all_goals first
   | exact⟨hyes,trivial⟩
   | exact⟨hyes.symm,trivial⟩
   | (exfalso;lia)
   | trace_state
theorem ifind_fn (O:Opq) (l:List PairK) (f t:ByteArray) (m:Int) (hl:l.length≤1000000) (hm:0≤m) (hok:mayP l):Fn prog 35 [.sl false 0 false 2 (O.o Prs.enc l),.str f,.str t,.int .i64 m] [] [.sl false 0 false 2 (O.o Prs.enc (O.o (findP f t m) l)),.int .i64 0] []:=by
 have hlen:=Prs.len O l
 have kc:=icheck_fn0 O l (by omega)
 rw[O.h mayPE,mayPE,if_pos (mayPb_iff.2 hok)] at kc
 obtain⟨z,hz⟩:∃ z:Nat,z=0:=⟨_,rfl⟩
 obtain⟨N,hN⟩:∃ N:Nat,N=l.length:=⟨_,rfl⟩
 have hz0:O.o Prs.enc (O.o (findK f t m l) z)=[]:=by rw[hz,O.h (findK f t m l),findK_zero,O.h];rfl
 clear hok
 refine go (fn:=Proofs.Tryz.f35) (n:=48) (rv:=[ResultVar.tmp 8,ResultVar.tmp 9]) rfl (by decide) rfl (by decide +kernel) rfl rfl (by simp) fun F L C=>?_
 cbv
 (repeat' first|(refine Na ?_ fun _ _=>?_;(focus lia);cbv)|(refine CallThen.mk _ _ (C.fn (Fn.wkA (kc) ?_)) ?_;(focus((repeat' apply WkAL.cons)<;>first|exact WkAL.nil|exact WkA.refl _|exact WkA.lend rfl|exact WkA.bor rfl (WkR.refl _)|exact WkA.wk (Wk.nil _ _)|exact WkA.wk (Wk.sl' rfl rfl (WkR.refl _))|(refine WkA.agg' ?_;((repeat' apply WkAL.cons)<;>first|exact WkAL.nil|exact WkA.refl _|exact WkA.lend rfl|exact WkA.bor rfl (WkR.refl _)|exact WkA.wk (Wk.nil _ _)|exact WkA.wk (Wk.sl' rfl rfl (WkR.refl _))|(refine WkA.agg' ?_;((repeat' apply WkAL.cons)<;>first|exact WkAL.nil|exact WkA.refl _|exact WkA.lend rfl|exact WkA.bor rfl (WkR.refl _)|exact WkA.wk (Wk.nil _ _)|exact WkA.wk (Wk.sl' rfl rfl (WkR.refl _))))))));cbv)|(refine Nl fun _ _ hq=>?_;(try simp only [lenS] at hq);cbv)|(refine Nm fun _ _=>?_;cbv)|(refine Br.t ?_ ?_;(focus first|assumption|lia);cbv)|(refine Br.f ?_ ?_;(focus first|assumption|lia);cbv)|(refine Br.mk (fun _=>?_) (fun _=>?_)<;>cbv)|(refine Need.mk ?_ ?_;rotate_left;cbv)|(refine R0 ?_;cbv))
 all_goals try(exfalso;clear kc;lia)
 refine LoopThen.mk (C.loopAt (ι:=Nat) [(10,10),(12,12),(22,50)] (fun k=>[(10,.ref 50),(22,.int .i64 k)]) (fun k=>[(50,.arr 0 none 2 (O.o Prs.enc (O.o (findK f t m l) k)))]) (fun k=>k≤l.length) (fun k=>N-k) (by decide +kernel) (Start.mk z [(50,.nil 2)] [] (show z≤l.length by omega) ?_) ?_)
 ·cbv
  (repeat' apply And.intro)<;>first|exact True.intro|exact WkR.refl _|rfl|exact hz0|(clear kc hz0;lia)|trace_state
 intro k g
 cbv
 have g1:k≤l.length:=g
 clear g hz0 kc
 by_cases hk:k<l.length
 ·obtain⟨x,hx⟩:∃ x,l[k]?=some x:=⟨l[k],by simp [hk]⟩
  have hs:=findK_step (f:=f) (t:=t) (m:=m) hx
  have hle:=findK_len f t m l k
  have hA:=Prs.len O (O.o (findK f t m l) k)
  have happ:O.o Prs.enc (O.o (findK f t m l) k++[x])=O.o Prs.enc (O.o (findK f t m l) k)++[x.enc]:=by
   have q:∀ l,O.o Prs.enc l=l.map PairK.enc:=fun l=>by rw[O.h];rfl
   rw[q,q,List.map_append];rfl
  have hyes:¬ slt x.key f∧(t=ByteArray.empty∨slt x.key t)∧((O.o (findK f t m l) k).length:Int)<m→O.o (findK f t m l) (k+1)=O.o (findK f t m l) k++[x]:=fun h=>by rw[O.h] at h ⊢;rw[hs,stepF,if_pos h]
  have hno:¬ (¬ slt x.key f∧(t=ByteArray.empty∨slt x.key t)∧((O.o (findK f t m l) k).length:Int)<m)→O.o (findK f t m l) (k+1)=O.o (findK f t m l) k:=fun h=>by rw[O.h] at h ⊢;rw[hs,stepF,if_neg h]
  have hle:(O.o (findK f t m l) k).length≤k:=by rw[O.h];exact hle
  obtain⟨W,eW⟩:∃ W,W=O.o (findK f t m l) (k+1):=⟨_,rfl⟩
  obtain⟨V,eV⟩:∃ W,W=O.o (findK f t m l) k:=⟨_,rfl⟩
  rw[← eV] at hA happ hyes hno hle
  have hA2:(O.o Prs.enc (O.o (findK f t m l) k)).length=V.length:=by rw[← eV];exact hA
  have eV2:=trivial
  rw[← eW] at hyes hno
  clear hs
  obtain⟨xa,xb⟩:=x
  (repeat' first|(refine Na ?_ fun _ _=>?_;(focus lia);cbv)|(refine Ex.pair O hx ?_ ?_;(focus lia);cbv)|(refine Back.up [(50,.loc 3264)] [] ?_ ?_ fun _ _=>?_;rotate_left 2;cbv;refine And.intro ?_ ?_)|(refine Back.up [] [] ?_ ?_ fun _ _=>?_;rotate_left 2;cbv;refine And.intro ?_ ?_)|(refine Nl fun _ _ hq=>?_;(try simp only [lenS] at hq);cbv)|(refine Nm fun _ _=>?_;cbv)|(refine Br.t ?_ ?_;(focus first|assumption|lia);cbv)|(refine Br.f ?_ ?_;(focus first|assumption|lia);cbv)|(refine Br.mk (fun _=>?_) (fun _=>?_)<;>cbv)|(refine Need.mk ?_ ?_;rotate_left;cbv)|(refine R0 ?_;cbv))
  all_goals first
   | ((repeat' apply And.intro)<;>first
     | exact True.intro
     | exact WkR.refl _
     | (rename_i k' hk';subst hk';refine WkR.of_eq ?_;show O.o Prs.enc (O.o (findK f t m l) (k+1))=O.o Prs.enc (O.o (findK f t m l) k);rw[← eW,← eV,hno (by rintro ⟨h1,h2,h3⟩;first|contradiction|(rcases h2 with h2|h2<;>contradiction)|(clear hx eW eV hyes hno happ;lia))])
     | (rename_i k' hk';subst hk';refine WkR.of_eq ?_;show O.o Prs.enc (O.o (findK f t m l) (k+1))=_;rw[← eW,hyes ⟨by assumption,by first|exact .inl (by assumption)|exact .inr (by assumption),by clear hx eW eV hyes hno happ;lia⟩,happ,eV];symm;assumption)
     | (clear hx eW eV eV2 hyes hno happ;lia))
   | (clear hx eW eV hyes hno happ;show((O.o Prs.enc (O.o (findK f t m l) k)).length+1) * 32≤2 ^ 44∧(O.o Prs.enc (O.o (findK f t m l) k)).length+1≤2 ^ 60;lia)
   | (exfalso;clear hx eW eV eV2 hyes hno happ;lia)
   | trace_state
 ·have he:O.o (findK f t m l) k=O.o (findP f t m) l:=by rw[O.h,O.h,findK_end (by omega)]
  have he:O.1 (findK f t m l) k=O.1 (findP f t m) l:=he
  rw[← he]
  (repeat' first|(refine Na ?_ fun _ _=>?_;(focus lia);cbv)|(refine RetThen.mk [] [50] ?_;cbv)|(refine Nl fun _ _ hq=>?_;(try simp only [lenS] at hq);cbv)|(refine Nm fun _ _=>?_;cbv)|(refine Br.t ?_ ?_;(focus first|assumption|lia);cbv)|(refine Br.f ?_ ?_;(focus first|assumption|lia);cbv)|(refine Br.mk (fun _=>?_) (fun _=>?_)<;>cbv)|(refine Need.mk ?_ ?_;rotate_left;cbv)|(refine R0 ?_;cbv))
  all_goals first
   | exact⟨.refl _,trivial⟩
   | (rename_i R eR;exact⟨.of_eq eR.symm,trivial⟩)
   | exact⟨.refl _,rfl,trivial⟩
   | (exfalso;lia)
   | trace_state
open Go
theorem lastI_some {c:UInt8} (hc:parV c=0) {s:List UInt8} {i:Nat} (h:lastN c s=some i):lastI c s s.length=i∧i<s.length:=by
 refine⟨by rw[lastI_end,h],?_⟩
 obtain⟨a,b,rfl,rfl,_,_⟩:=lastN_some hc h
 simp
theorem lastI_none {c:UInt8} {s:List UInt8} (h:lastN c s=none):lastI c s s.length=-1:=by rw[lastI_end,h]
theorem cut_head (s:List UInt8) (i:Nat):ofL (s.take i)=(ofL s).extract 0 i:=by rw[extract_ofL];simp
theorem cut_tail (s:List UInt8) (i:Nat):ofL (s.drop i)=(ofL s).extract i (ofL s).size:=by rw[extract_ofL,size_ofL];simp
theorem cut_mid (s:List UInt8) (p:Nat):ofL ((s.drop p).tail.dropLast)=(ofL s).extract (p+1) ((ofL s).size-1):=by
 rw[extract_ofL,size_ofL,List.dropLast_eq_take,List.tail_drop,List.drop_take,List.length_drop]
 congr 2
 omega
theorem cut_in (s:List UInt8):ofL s.tail.dropLast=(ofL s).extract 1 ((ofL s).size-1):=by
 have:=cut_mid s 0
 simpa using this
theorem head_take (s:List UInt8):headP s=s.take (headP s).length:=by
 have h:headP s++tailP s=s:=List.takeWhile_append_dropWhile
 conv=>rhs;rw[← h]
 rw[List.take_append_of_le_length (by rw[h];exact Nat.le_refl _)]
 rw[h,List.take_of_length_le (Nat.le_refl _)]
theorem tail_drop (s:List UInt8):tailP s=s.drop (headP s).length:=by
 have h:headP s++tailP s=s:=List.takeWhile_append_dropWhile
 have k:=congrArg (List.drop (headP s).length) h
 rw[List.drop_left] at k
 exact k
theorem head_all:∀ (s:List UInt8),∀ c∈headP s,c≠40
 | [],c,h=>by cases h
 | d::r,c,h=>by
  unfold headP at h
  rw[List.takeWhile_cons] at h
  split at h
  ·rename_i k
   rcases List.mem_cons.1 h with rfl|h
   ·simpa using k
   ·exact head_all r c h
  ·cases h
theorem tail_at:∀ {s:List UInt8} {c:UInt8} {r:List UInt8},tailP s=c::r→c=40
 | [],c,r,h=>by cases h
 | d::t,c,r,h=>by
  unfold tailP at h
  rw[List.dropWhile_cons] at h
  split at h
  ·exact tail_at (s:=t) h
  ·rename_i k
   cases h
   simpa using k
theorem head_no {s:List UInt8} {j:Nat} (h:j<(headP s).length):¬ ((s.getD j 0).toNat:Int)=40:=fun e=>by
 have hl:(headP s).length≤s.length:=(List.takeWhile_sublist _).length_le
 have h1:=getD_some (s:=s) (i:=j) (by omega)
 rw[(u8_int (c:=s.getD j 0) (k:=40) (by decide)).1 e] at h1
 have h2:(headP s)[j]?=some 40:=by
  rw[head_take s,List.getElem?_take,if_pos h];exact h1
 have h3:=List.mem_of_getElem? h2
 exact head_all s _ h3 rfl
theorem head_at {s:List UInt8} (h:40∈s):(headP s).length<s.length∧((s.getD (headP s).length 0).toNat:Int)=40:=by
 have hs:headP s++tailP s=s:=List.takeWhile_append_dropWhile
 have hne:tailP s≠[]:=fun e=>by
  have h40:40∈headP s:=by rw[e,List.append_nil] at hs;rw[hs];exact h
  exact head_all s _ h40 rfl
 obtain⟨c,r,hcr⟩:=List.exists_cons_of_ne_nil hne
 have hc:c=40:=tail_at hcr
 have hl:(headP s).length<s.length:=by
  have:=congrArg List.length hs
  rw[hcr] at this;simp at this;omega
 refine⟨hl,?_⟩
 have:s[(headP s).length]?=some c:=by
  have k:(headP s++tailP s)[(headP s).length]?=some c:=by rw[List.getElem?_append_right (Nat.le_refl _),Nat.sub_self,hcr];rfl
  rwa [hs] at k
 rw[List.getD_eq_getElem?_getD,this,hc];rfl
open Classical in
theorem wholeD_yes {s:List UInt8} (h:wholeB s):wholeD s=true:=decide_eq_true h
open Classical in
theorem wholeD_not {s:List UInt8} (h:¬ wholeB s):wholeD s=false:=decide_eq_false h
theorem cons_snoc {α:Type} {a:α} {L D:List α} {x:α} (h:a::L=D++[x]):(L=[]∧D=[]∧a=x)∨∃ D',D=a::D'∧L=D'++[x]:=by
 cases D with
 | nil=>simp at h;exact .inl ⟨h.2,rfl,h.1⟩
 | cons d D'=>simp at h;exact .inr ⟨D',by rw[h.1],h.2⟩
theorem split_snoc:∀ (l:List UInt8) (c:UInt8) (D:List (List UInt8)) (x:List UInt8),splitLC l=D++[x]→splitLC (l++[c])=if c=44 then D++[x]++[[]] else D++[x++[c]]
 | [],c,D,x,h=>by
  rcases cons_snoc (show[]::[]=D++[x] from h) with ⟨_,rfl,rfl⟩ | ⟨D',_,h2⟩
  ·simp only [List.nil_append,splitLC];rfl
  ·simp at h2
 | d::r,c,D,x,h=>by
  rw[List.cons_append]
  simp only [splitLC] at h ⊢
  by_cases hd:d=44
  ·rw[if_pos hd] at h ⊢
   rcases cons_snoc h with ⟨h1,_,_⟩ | ⟨D',rfl,h2⟩
   ·exact absurd h1 (splitL_neC r)
   ·rw[split_snoc r c D' x h2]
    split<;>simp
  ·rw[if_neg hd] at h ⊢
   cases hs:splitLC r with
   | nil=>exact absurd hs (splitL_neC r)
   | cons p ps =>
    rw[hs] at h
    rcases cons_snoc h with ⟨rfl,rfl,rfl⟩ | ⟨D',rfl,rfl⟩
    ·rw[split_snoc r c [] p (by rw[hs];rfl)]
     by_cases hc:c=44
     ·simp [hc]
     ·simp [hc]
    ·rw[split_snoc r c (p::D') x (by rw[hs];rfl)]
     by_cases hc:c=44
     ·simp [hc]
     ·simp [hc]
def CutAt (s:List UInt8) (i st:Nat) (D:List (List UInt8)):Prop :=
 st≤i∧((i≤s.length∧splitLC (s.take i)=D++[(s.take i).drop st])∨(i=s.length+1∧D=splitLC s))
theorem CutAt.start (s:List UInt8):CutAt s 0 0 []:=⟨Nat.le_refl _,.inl ⟨Nat.zero_le _,rfl⟩⟩
theorem CutAt.comma {s:List UInt8} {i st:Nat} {D:List (List UInt8)} (h:CutAt s i st D) (hi:i<s.length) (hc:s.getD i 0=44):CutAt s (i+1) (i+1) (D++[(s.take i).drop st]):=by
 obtain⟨h1,h2|h2⟩:=h
 ·refine⟨Nat.le_refl _,.inl ⟨by omega,?_⟩⟩
  rw[take_snoc (getD_some hi),split_snoc _ _ _ _ h2.2,if_pos hc]
  simp
  omega
 ·omega
theorem CutAt.go {s:List UInt8} {i st:Nat} {D:List (List UInt8)} (h:CutAt s i st D) (hi:i<s.length) (hc:¬ s.getD i 0=44):CutAt s (i+1) st D:=by
 obtain⟨h1,h2|h2⟩:=h
 ·refine⟨by omega,.inl ⟨by omega,?_⟩⟩
  rw[take_snoc (getD_some hi),split_snoc _ _ _ _ h2.2,if_neg hc,List.drop_append_of_le_length (by rw[List.length_take];omega)]
 ·omega
theorem CutAt.last {s:List UInt8} {i st:Nat} {D:List (List UInt8)} (h:CutAt s i st D) (hi:i=s.length):CutAt s (i+1) (i+1) (D++[(s.take i).drop st]):=by
 obtain⟨h1,h2|h2⟩:=h
 ·refine⟨Nat.le_refl _,.inr ⟨by omega,?_⟩⟩
  rw[← h2.2,hi,List.take_length]
 ·omega
theorem CutAt.done {s:List UInt8} {i st:Nat} {D:List (List UInt8)} (h:CutAt s i st D) (hi:¬ i≤s.length):D=splitLC s:=by
 obtain⟨h1,h2|h2⟩:=h
 ·omega
 ·exact h2.2
theorem CutAt.le {s:List UInt8} {i st:Nat} {D:List (List UInt8)} (h:CutAt s i st D):i≤s.length+1∧st≤i:=by
 obtain⟨h1,h2|h2⟩:=h<;>omega
theorem CutAt.count {s:List UInt8} {i st:Nat} {D:List (List UInt8)} (h:CutAt s i st D):D.length≤i:=by
 obtain⟨h1,h2|h2⟩:=h
 ·have:=congrArg List.length h2.2
  rw[split_count] at this
  simp only [List.length_append,List.length_cons,List.length_nil] at this
  have k:=List.count_le_length (a:=(44:UInt8)) (l:=s.take i)
  rw[List.length_take] at k
  omega
 ·rw[h2.2,split_count]
  have k:=List.count_le_length (a:=(44:UInt8)) (l:=s)
  omega
theorem Strs_snoc (O:Opq) (D:List (List UInt8)) (p:List UInt8):O.o Strs ((D++[p]).map ofL)=O.o Strs (D.map ofL)++[[.str (O.o ofL p)]]:=by
 simp only [O.h,Strs_eq,List.map_append,List.map_cons,List.map_nil];rfl
theorem cut_range (s:List UInt8) (a b:Nat):ofL ((s.take b).drop a)=(ofL s).extract a b:=(extract_ofL s a b).symm
open Go Go.Proofs Go.Proofs.Tryz
set_option maxRecDepth 10000
inductive Cel.In:Cel→Prop
 | mk {k n:Int} {t:ByteArray} {l:List Cel} (hk:inInt k) (hn:inInt n) (ht:inStr t) (hl:l.length≤9223372036854775807) (h:∀ c∈l,c.In):Cel.In (.mk k n t l)
theorem cOp0:prog.cellsOf 85=2:=by decide +kernel
theorem cOp1:prog.cellsOf 9=1:=by decide +kernel
theorem cOp2:prog.cellsOf 35=1:=by decide +kernel
def Ndoc.In (c:Ndoc):Prop:=inStr (c.key)∧((c.doc).length≤9223372036854775807∧∀ y∈c.doc,y.In)
theorem shape_ndoc {n:Nat} {xs:List PV} (h:shape prog n 85 xs):∃ c:Ndoc,WkL (Ndoc.enc Opq.id c) xs∧c.In:=by
 cases n with
 | zero=>exact h.elim
 | succ n =>
  simp only [shape,Tryz.underlying85,List.forall_mem_cons,List.not_mem_nil,false_imp_iff,implies_true,and_true,cOp0,cOp1,cOp2] at h
  obtain⟨hl,h0,h1⟩:=h
  match xs,hl with
  | [x0,x1],_ =>
  obtain⟨a0,e0,i0⟩:=shape_str (xs:=[x0]) h0
  obtain⟨a1,w1,i1⟩:=shape_doc (x:=x1) h1
  cases e0
  exact⟨⟨a0,a1⟩,(WkL.append (WkL.refl [_]) (WkL.cons w1 (WkL.refl []))),⟨i0,i1⟩⟩
theorem shape_ndocs {n:Nat} {x:PV} (h:shape prog n 37 [x]):∃ l:List Ndoc,Wk (.sl false 0 false 2 (l.map (Ndoc.enc Opq.id))) x∧l.length≤9223372036854775807∧∀ c∈l,c.In:=by
 cases n with
 | zero=>exact h.elim
 | succ n =>
  simp only [shape,Tryz.underlying37,cOp0] at h
  rcases h with h | ⟨rows,h,hl,hr⟩
  ·cases h
   exact⟨[],.nil _ _,by simp,by simp⟩
  ·cases h
   obtain⟨l,hw,hll,hi⟩:=rows_wkx (fun r hr=>shape_ndoc hr) hr
   exact⟨l,.sl' rfl rfl hw,by rw[hll];simpa [maxLen] using hl,hi⟩
theorem cOp3:prog.cellsOf 58=2:=by decide +kernel
def PairK.In (c:PairK):Prop:=inStr (c.key)∧inStr (c.val)
theorem shape_pairk {n:Nat} {xs:List PV} (h:shape prog n 58 xs):∃ c:PairK,WkL (PairK.enc c) xs∧c.In:=by
 cases n with
 | zero=>exact h.elim
 | succ n =>
  simp only [shape,Tryz.underlying58,List.forall_mem_cons,List.not_mem_nil,false_imp_iff,implies_true,and_true,cOp3,cOp1] at h
  obtain⟨hl,h0,h1⟩:=h
  match xs,hl with
  | [x0,x1],_ =>
  obtain⟨a0,e0,i0⟩:=shape_str (xs:=[x0]) h0
  obtain⟨a1,e1,i1⟩:=shape_str (xs:=[x1]) h1
  cases e0;cases e1
  exact⟨⟨a0,a1⟩,(WkL.append (WkL.refl [_]) (WkL.refl [_])),⟨i0,i1⟩⟩
theorem shape_pairks {n:Nat} {x:PV} (h:shape prog n 23 [x]):∃ l:List PairK,Wk (.sl false 0 false 2 (l.map (PairK.enc))) x∧l.length≤9223372036854775807∧∀ c∈l,c.In:=by
 cases n with
 | zero=>exact h.elim
 | succ n =>
  simp only [shape,Tryz.underlying23,cOp3] at h
  rcases h with h | ⟨rows,h,hl,hr⟩
  ·cases h
   exact⟨[],.nil _ _,by simp,by simp⟩
  ·cases h
   obtain⟨l,hw,hll,hi⟩:=rows_wkx (fun r hr=>shape_pairk hr) hr
   exact⟨l,.sl' rfl rfl hw,by rw[hll];simpa [maxLen] using hl,hi⟩
theorem cOp6:prog.cellsOf 4=1:=by decide +kernel
theorem cOp7:prog.cellsOf 37=1:=by decide +kernel
theorem cOp8:prog.cellsOf 38=1:=by decide +kernel
theorem cOp9:prog.cellsOf 3=1:=by decide +kernel
def Answer.In (c:Answer):Prop:=inInt (c.code)∧((c.doc).length≤9223372036854775807∧∀ y∈c.doc,y.In)∧((c.docs).length≤9223372036854775807∧∀ y∈c.docs,y.In)∧((c.news).length≤9223372036854775807∧∀ y∈c.news,y.In)∧inInt (c.n)∧inInt (c.total)∧((c.keys).length≤9223372036854775807∧∀ y∈c.keys,y.In)
theorem cOp11:prog.cellsOf 40=11:=by decide +kernel
theorem cOp12:prog.cellsOf 36=1:=by decide +kernel
inductive Opn.In:Opn→Prop
 | mk {c:Opn} (h:inInt (c.kind)∧inStr (c.key)∧inStr (c.to)∧((c.doc).length≤9223372036854775807∧∀ y∈c.doc,y.In)∧((c.want).length≤9223372036854775807∧∀ y∈c.want,y.In)∧inInt (c.n)∧inInt (c.most)∧((c.docs).length≤9223372036854775807∧∀ y∈c.docs,y.In)∧((c.news).length≤9223372036854775807∧∀ y∈c.news,y.In)) (hl:c.list.length≤9223372036854775807) (hr:∀ y∈c.list,y.In):c.In
theorem shape_opn:∀ {n:Nat} {xs:List PV},shape prog n 40 xs→∃ c:Opn,WkL (Opn.enc Opq.id c) xs∧c.In
 | 0,_,h=>h.elim
 | 1,_,h=>by
  simp only [shape,Tryz.underlying40,List.forall_mem_cons,List.not_mem_nil,false_imp_iff,implies_true,and_true] at h
  exact h.2.1.elim
 | n+2,xs,h=>by
  have ih:=fun(r:List PV)=>shape_opn (n:=n) (xs:=r)
  rw[shape] at h
  simp only [Tryz.underlying40,List.forall_mem_cons,List.not_mem_nil,false_imp_iff,implies_true,and_true,cOp11,cOp9,cOp1,cOp2,cOp6,cOp12,cOp7,cOp8] at h
  obtain⟨hl,h0,h1,h2,h3,h4,h5,h6,h7,h8,h9,h10⟩:=h
  match xs,hl with
  | [x0,x1,x2,x3,x4,x5,x6,x7,x8,x9,x10],_ =>
  obtain⟨a0,e0,i0⟩:=shape_int (xs:=[x0]) h0
  obtain⟨a1,e1,i1⟩:=shape_str (xs:=[x1]) h1
  obtain⟨a2,e2,i2⟩:=shape_str (xs:=[x2]) h2
  obtain⟨a3,w3,i3⟩:=shape_doc (x:=x3) h3
  obtain⟨a4,w4,i4⟩:=shape_doc (x:=x4) h4
  obtain⟨a5,e5⟩:=shape_bool (xs:=[x5]) h5
  obtain⟨a6,e6,i6⟩:=shape_int (xs:=[x6]) h6
  obtain⟨a7,e7,i7⟩:=shape_int (xs:=[x7]) h7
  obtain⟨a8,w8,ll8,il8⟩:∃ l:List Opn,Wk (.sl false 0 false 11 (Ops.enc Opq.id l)) x8∧l.length≤9223372036854775807∧∀ c∈l,c.In:=by
   simp only [List.drop_succ_cons,List.drop_zero,List.take_succ_cons,List.take_zero,shape,Tryz.underlying36,cOp11] at h8
   rcases h8 with h8 | ⟨rows,h8,hl,hr⟩
   ·cases h8
    exact⟨[],.nil _ _,by simp,by simp⟩
   ·cases h8
    obtain⟨l,hw,hll,hi⟩:=rows_wkx (fun r hr=>ih r hr) hr
    rw[← Ops.enc_map] at hw
    exact⟨l,.sl' rfl rfl hw,by rw[hll];simpa [maxLen] using hl,hi⟩
  obtain⟨a9,w9,i9⟩:=shape_ndocs (x:=x9) h9
  obtain⟨a10,w10,i10⟩:=shape_changes (x:=x10) h10
  cases e0;cases e1;cases e2;cases e5;cases e6;cases e7
  exact⟨.mk a0 a1 a2 a3 a4 a5 a6 a7 a8 a9 a10,(WkL.append (WkL.refl [_]) (WkL.append (WkL.refl [_]) (WkL.append (WkL.refl [_]) (WkL.append (WkL.cons w3 (WkL.refl [])) (WkL.append (WkL.cons w4 (WkL.refl [])) (WkL.append (WkL.refl [_]) (WkL.append (WkL.refl [_]) (WkL.append (WkL.refl [_]) (WkL.append (WkL.cons w8 (WkL.refl [])) (WkL.append (WkL.cons w9 (WkL.refl [])) (WkL.cons w10 (WkL.refl [])))))))))))),.mk ⟨i0,i1,i2,i3,i4,i6,i7,i9,i10⟩ ll8 il8⟩
end Go.Sym
