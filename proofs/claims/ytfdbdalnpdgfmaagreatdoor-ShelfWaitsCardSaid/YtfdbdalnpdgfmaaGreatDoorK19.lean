/- Which entries may be: index.Check, the document's May. -/
import Derived.Test.YtfdbdalnpdgfmaaGreatDoorK6
import Derived.Test.YtfdbdalnpdgfmaaGreatDoorK18
set_option linter.all false
set_option linter.unusedVariables false
set_option linter.unusedSimpArgs false
namespace Go.Sym
open Go Go.Proofs.Tryz
set_option maxRecDepth 100000
theorem Ex.pair (O:Opq) {l:List PairK} {k:Nat} {x:PairK} (hx:l[k]?=some x) {i:Int} {K:List PV→Prop} (hi:i=k) (h:K x.enc):Ex (List PV) (fun row=>0≤i∧(O.o Prs.enc l)[i.toNat]?=some row) K :=
 .mk x.enc ⟨by omega,by rw[O.h,Prs.enc,List.getElem?_map,hi,Int.toNat_natCast,hx];rfl⟩ h
noncomputable def mayPE (l:List PairK):Int:=if mayPb l=true then 0 else 1
theorem icheck_fn0 (O:Opq) (l:List PairK) (hl:l.length≤9223372036854775807):Fn prog 30 [.sl true 0 false 2 (O.o Prs.enc l)] [] [.int .i64 (O.o mayPE l)] []:=by
 have hlen:=Prs.len O l
 obtain⟨R,eR⟩:∃ R,R=O.o mayPE l:=⟨_,rfl⟩
 have hRy:mayP l→R=0:=fun h=>by rw[eR,O.h,mayPE,if_pos (mayPb_iff.2 h)]
 have hRn:¬ mayP l→R=1:=fun h=>by rw[eR,O.h,mayPE,if_neg (fun k=>h (mayPb_iff.1 k))]
 rw[← eR]
 clear eR
 obtain⟨z,hz⟩:∃ z:Nat,z=0:=⟨_,rfl⟩
 obtain⟨N,hN⟩:∃ N:Nat,N=l.length:=⟨_,rfl⟩
 have hz0:mayTo l z:=by rw[hz];exact mayTo_zero l
 refine go (fn:=Proofs.Tryz.f30) (n:=24) (rv:=[ResultVar.tmp 2]) rfl (by decide) rfl (by decide +kernel) rfl rfl (by simp) fun F L C=>?_
 cbv
 (repeat' first|(refine Na ?_ fun _ _=>?_;(focus lia);cbv)|(refine Nl fun _ _ hq=>?_;(try simp only [lenS] at hq);cbv)|(refine Nm fun _ _=>?_;cbv)|(refine Br.t ?_ ?_;(focus first|assumption|lia);cbv)|(refine Br.f ?_ ?_;(focus first|assumption|lia);cbv)|(refine Br.mk (fun _=>?_) (fun _=>?_)<;>cbv)|(refine Need.mk ?_ ?_;rotate_left;cbv)|(refine R0 ?_;cbv))
 refine LoopThen.mk (C.loopAt (ι:=Nat) [(2,3),(6,24)] (fun k=>[(6,.int .i64 k)]) (fun _=>[]) (fun k=>k≤l.length∧mayTo l k) (fun k=>N-k) (by decide +kernel) (Start.mk z [] [] ⟨by omega,hz0⟩ ?_) ?_)
 ·cbv
  (repeat' apply And.intro)<;>first|exact True.intro|exact WkR.refl _|rfl|(clear hRn hRy hz0;lia)|trace_state
 intro k g
 cbv
 have g1:k≤l.length:=g.1
 have g2:mayTo l k:=g.2
 clear g hz0
 by_cases hk:k<l.length
 ·obtain⟨x,hx⟩:∃ x,l[k]?=some x:=⟨l[k],by simp [hk]⟩
  cases k with
  | zero =>
   have hst:mayTo l (0+1):=mayTo_one l
   clear hRy hRn g2
   (repeat' first|(refine Na ?_ fun _ _=>?_;(focus lia);cbv)|(refine Back.up [] [] ?_ ?_ fun _ _=>?_;rotate_left 2;cbv;refine And.intro ?_ ?_)|(refine Nl fun _ _ hq=>?_;(try simp only [lenS] at hq);cbv)|(refine Nm fun _ _=>?_;cbv)|(refine Br.t ?_ ?_;(focus first|assumption|lia);cbv)|(refine Br.f ?_ ?_;(focus first|assumption|lia);cbv)|(refine Br.mk (fun _=>?_) (fun _=>?_)<;>cbv)|(refine Need.mk ?_ ?_;rotate_left;cbv)|(refine R0 ?_;cbv))
   all_goals first
    | exact⟨by omega,hst⟩
    | ((repeat' apply And.intro)<;>first|exact True.intro|exact WkR.refl _|exact hst|(clear hst hx;lia))
    | (exfalso;clear hst hx;lia)
    | trace_state
  | succ m =>
   obtain⟨y,hy⟩:∃ x,l[m]?=some x:=⟨l[m]'(by omega),by simp⟩
   have ko:=order_fn O y x
   have hS:O.o (ordI y) x<0 ↔ lessP y x:=by rw[O.h];exact ordI_lt
   have hno:¬ O.o (ordI y) x<0→R=1:=fun h=>hRn (mayP_no hy hx (fun k=>h (hS.2 k)))
   have hst:O.o (ordI y) x<0→mayTo l (m+1+1):=fun h=>mayTo_step g2 hy hx (hS.1 h)
   obtain⟨S,eS⟩:∃ S,S=O.o (ordI y) x:=⟨_,rfl⟩
   rw[← eS] at ko hno hst
   clear hRy hRn g2 hS eS
   obtain⟨xa,xb⟩:=x
   obtain⟨ya,yb⟩:=y
   (repeat' first|(refine Na ?_ fun _ _=>?_;(focus lia);cbv)|(refine Ex.pair O hx ?_ ?_;(focus lia);cbv)|(refine Ex.pair O hy ?_ ?_;(focus lia);cbv)|(refine CallThen.mk _ _ (C.fn (ko)) ?_;cbv)|(refine Back.up [] [] ?_ ?_ fun _ _=>?_;rotate_left 2;cbv;refine And.intro ?_ ?_)|(refine Nl fun _ _ hq=>?_;(try simp only [lenS] at hq);cbv)|(refine Nm fun _ _=>?_;cbv)|(refine Br.t ?_ ?_;(focus first|assumption|lia);cbv)|(refine Br.f ?_ ?_;(focus first|assumption|lia);cbv)|(refine Br.mk (fun _=>?_) (fun _=>?_)<;>cbv)|(refine Need.mk ?_ ?_;rotate_left;cbv)|(refine R0 ?_;cbv))
   all_goals first
    | exact⟨hno (by lia),trivial⟩
    | exact⟨(hno (by lia)).symm,trivial⟩
    | exact⟨by omega,hst (by lia)⟩
    | ((repeat' apply And.intro)<;>first|exact True.intro|exact WkR.refl _|exact hst (by lia)|(clear hst hno ko hx hy;lia))
    | (exfalso;clear hst hno ko hx hy;lia)
    | (clear hst hno ko hx hy;lia)
    | trace_state
 ·have hyes:=hRy (mayP_end g2 (by omega))
  clear hRy hRn g2
  (repeat' first|(refine Na ?_ fun _ _=>?_;(focus lia);cbv)|(refine Nl fun _ _ hq=>?_;(try simp only [lenS] at hq);cbv)|(refine Nm fun _ _=>?_;cbv)|(refine Br.t ?_ ?_;(focus first|assumption|lia);cbv)|(refine Br.f ?_ ?_;(focus first|assumption|lia);cbv)|(refine Br.mk (fun _=>?_) (fun _=>?_)<;>cbv)|(refine Need.mk ?_ ?_;rotate_left;cbv)|(refine R0 ?_;cbv))
  all_goals first
   | exact⟨hyes,trivial⟩
   | exact⟨hyes.symm,trivial⟩
   | (exfalso;lia)
   | trace_state
open Go
def headP (s:List UInt8):List UInt8:=s.takeWhile (·≠40)
def tailP (s:List UInt8):List UInt8:=s.dropWhile (·≠40)
def leafR (s:List UInt8):Nd×Bool :=
 if plainL s=true then(.mk 2 [] (natOf (s.take 16):Nat) [],decide (s.length≤15∧digN (natOf (s.take 16))=s)) else(.mk 1 s 0 [],pathL s)
open Classical in
noncomputable def readN:Nat→List UInt8→Nd×Bool
 | 0,_=>(zeroN,false)
 | n+1,s =>
  if s=[] then(zeroN,false)
  else match lastN 43 s with
  | some i=>(sumN (readN n (s.take i)).1 (readN n (s.drop (i+1))).1,(readN n (s.take i)).2 && (readN n (s.drop (i+1))).2)
  | none=>match lastN 42 s with
   | some i=>(mulN (readN n (s.take i)).1 (readN n (s.drop (i+1))).1,(readN n (s.take i)).2 && (readN n (s.drop (i+1))).2)
   | none =>
    if wholeB s then readN n s.tail.dropLast
    else if 40∈s then
     if nameL (headP s)=true∧wholeB (tailP s) then(callN (headP s) (readN n (tailP s).tail.dropLast).1,(readN n (tailP s).tail.dropLast).2) else(zeroN,false)
    else leafR s
theorem leafR_some {s:List UInt8} {x:Xp} (h:leafL s=some x):leafR s=(x.nd,true):=by
 unfold leafL at h
 unfold leafR
 split at h
 ·rename_i k
  rw[if_pos k]
  split at h
  ·rename_i k2
   cases h
   rw[List.take_of_length_le (by omega),decide_eq_true k2.2];rfl
  ·cases h
 ·rename_i k
  rw[if_neg k]
  split at h
  ·rename_i k2;cases h;rw[k2];rfl
  ·cases h
theorem leafR_none {s:List UInt8} (h0:s≠[]) (h:leafL s=none):(leafR s).2=false:=by
 unfold leafL at h
 unfold leafR
 split at h
 ·rename_i k
  rw[if_pos k]
  split at h
  ·cases h
  ·rename_i k2
   simp only [decide_eq_false_iff_not]
   rintro ⟨k3,k4⟩
   rw[List.take_of_length_le (by omega)] at k4
   exact k2 ⟨h0,k3,k4⟩
 ·rename_i k
  rw[if_neg k]
  split at h
  ·cases h
  ·rename_i k2;simpa using k2
theorem readN_X:∀ (n:Nat) (s:List UInt8),(∀ e,readX lexE.toLex n s=some e→readN n s=(e.nd,true))∧(readX lexE.toLex n s=none→(readN n s).2=false)
 | 0,s=>⟨fun e h=>by simp [readX] at h,fun _=>rfl⟩
 | n+1,s=>by
  have ih:=readN_X n
  have two:∀ (f:Nd→Nd→Nd) (g:Xp→Xp→Xp) (a b:List UInt8),(∀ x y,(g x y).nd=f x.nd y.nd) →
    (∀ e,(match readX lexE.toLex n a,readX lexE.toLex n b with|some x,some y=>some (g x y)|_,_=>none)=some e→(f (readN n a).1 (readN n b).1,(readN n a).2 && (readN n b).2)=(e.nd,true)) ∧
    ((match readX lexE.toLex n a,readX lexE.toLex n b with|some x,some y=>some (g x y)|_,_=>none)=none→((readN n a).2 && (readN n b).2)=false):=by
   intro f g a b hg
   cases ha:readX lexE.toLex n a with
   | none =>
    refine⟨fun e h=>by simp at h,fun _=>?_⟩
    rw[(ih a).2 ha];rfl
   | some x =>
    cases hb:readX lexE.toLex n b with
    | none =>
     refine⟨fun e h=>by simp at h,fun _=>?_⟩
     rw[(ih b).2 hb];simp
    | some y =>
     refine⟨fun e h=>?_,fun h=>by simp at h⟩
     simp only [Option.some.injEq] at h
     subst h
     rw[(ih a).1 x ha,(ih b).1 y hb,hg];rfl
  unfold readX readN
  by_cases h0:s=[]
  ·rw[if_pos h0,if_pos h0];exact⟨fun e h=>(by cases h),fun _=>rfl⟩
  rw[if_neg h0,if_neg h0]
  cases h43:lastN 43 s with
  | some i=>exact two sumN .sum _ _ fun x y=>rfl
  | none =>
   cases h42:lastN 42 s with
   | some i=>exact two mulN .mul _ _ fun x y=>rfl
   | none =>
    simp only
    by_cases hw:wholeB s
    ·rw[if_pos hw,if_pos hw];exact ih _
    rw[if_neg hw,if_neg hw]
    by_cases h40:40∈s
    ·rw[if_pos h40,if_pos h40]
     by_cases hc:nameL (headP s)=true∧wholeB (tailP s)
     ·rw[if_pos hc,if_pos (show lexE.toLex.name (s.takeWhile (·≠40))=true∧wholeB (s.dropWhile (·≠40)) from hc)]
      have i2:=ih (tailP s).tail.dropLast
      constructor
      ·intro e h
       simp only [Option.map_eq_some_iff] at h
       obtain⟨y,hy,rfl⟩:=h
       rw[i2.1 y hy];rfl
      ·intro h
       simp only [Option.map_eq_none_iff] at h
       exact i2.2 h
     ·rw[if_neg hc,if_neg (show ¬ (lexE.toLex.name (s.takeWhile (·≠40))=true∧wholeB (s.dropWhile (·≠40))) from hc)]
      exact⟨fun e h=>(by cases h),fun _=>rfl⟩
    ·rw[if_neg h40,if_neg h40]
     exact⟨fun e h=>leafR_some h,fun h=>leafR_none h0 h⟩
theorem read_parse {s:List UInt8} (hl:s.length≤256):((readN 300 s).2=true ↔ (parse0 s).2=([],false))∧((readN 300 s).2=true→(readN 300 s).1=(parse0 s).1):=by
 have a:=reads_agree (s:=s) (n:=300) (m:=300) (by omega) (by omega)
 have b:=readN_X 300 s
 cases hx:readX lexE.toLex 300 s with
 | none =>
  have k:=a.2 hx
  have k2:=b.2 hx
  rw[k2]
  exact⟨⟨fun h=>(by cases h),fun h=>absurd h k⟩,fun h=>by cases h⟩
 | some e =>
  have k:parse0 s=(e.nd,[],false):=a.1 e hx
  have k2:=b.1 e hx
  rw[k,k2]
  exact⟨⟨fun _=>rfl,fun _=>rfl⟩,fun _=>rfl⟩
theorem deep_I (x:Nd):deepB 8 x=true ↔ 8<depthI 9 x:=by
 rw[deep_depth 8 9 x (by decide),depthI];omega
theorem Sub.enc_inj {s t:Sub}:s.enc=t.enc ↔ s=t:=by cases s;cases t;simp [Sub.enc]
theorem sameC_len {l m:List Change} (h:l.length≠m.length):sameC l m=false:=by
 simp only [sameC,decide_eq_false_iff_not];rintro rfl;exact h rfl
theorem sameC_at {l m:List Change} {k:Nat} (h:l[k]?≠m[k]?):sameC l m=false:=by
 simp only [sameC,decide_eq_false_iff_not];rintro rfl;exact h rfl
theorem sameC_all {l m:List Change} (hl:l.length=m.length) (h:∀ j,j<l.length→l[j]?=m[j]?):sameC l m=true:=by
 simp only [sameC,decide_eq_true_eq]
 refine List.ext_getElem? fun j=>?_
 by_cases hj:j<l.length
 ·exact h j hj
 ·rw[List.getElem?_eq_none (by omega),List.getElem?_eq_none (by omega)]
end Go.Sym
