/- The document's reading of expressions: a text. -/
import Derived.Test.YtfdbdalnpdgfmaaGreatDoorK22
import Derived.Test.YtfdbdalnpdgfmaaGreatDoorK23
import Derived.Test.YtfdbdalnpdgfmaaGreatDoorK24
import Derived.Test.YtfdbdalnpdgfmaaGreatDoorK20
set_option linter.all false
set_option linter.unusedVariables false
set_option linter.unusedSimpArgs false
namespace Go.Sym
open Go Go.Proofs.Tryz
set_option maxRecDepth 100000
theorem two_en (O:Opq) (f:Nd→Nd→Nd) (k:Int) (hf:∀ a b,f a b=.mk k [] 0 [a,b]) (x y:Nd):(f x y).en O=[.int .i64 k,.str ByteArray.empty,.int .i64 0,.sl false 0 false 4 [x.en O,y.en O]]:=by
 rw[hf,← Nds.two O x y,show ByteArray.empty=O.o ofL [] by rw[O.h];rfl];rfl
theorem call_en (O:Opq) (w:List UInt8) (x:Nd):(callN w x).en O=[.int .i64 5,.str (O.o ofL w),.int .i64 0,.sl false 0 false 4 [x.en O]]:=by
 rw[← Nds.one O x];rfl
theorem zero_en (O:Opq):zeroN.en O=[.int .i64 0,.str ByteArray.empty,.int .i64 0,.sl false 0 false 4 []]:=by
 rw[zeroN_en,show O.o ofL []=ByteArray.empty by rw[O.h];rfl,Nds.nil O]
theorem rreadX_fn (O:Opq):∀ (n:Nat),n≤300→∀ (s:List UInt8),s.length≤256→∀ v:Int,v=n →
  Fn prog 27 [.str (O.o ofL s),.int .i64 v] [] [.agg ((readN n s).1.en O),.bool (readN n s).2] []
 | 0,_,s,_,v,hv=>by
  have:=readZ (S:=O.o ofL s) (v:=v) (.inr hv)
  rw[← zero_en O] at this
  exact this
 | n+1,hn,s,hs,v,hv=>by
  have hS0:O.o ofL s=ByteArray.empty ↔ s=[]:=by rw[O.h];exact ofL_emp
  have hsz:(O.o ofL s).size=s.length:=by rw[O.h,size_ofL]
  by_cases h0:s=[]
  ·have:=readZ (S:=O.o ofL s) (v:=v) (.inl (hS0.2 h0))
   rw[← zero_en O] at this
   rw[readN,if_pos h0]
   exact this
  have hS:¬ O.o ofL s=ByteArray.empty:=fun e=>h0 (hS0.1 e)
  have hv1:1≤v∧v≤300:=by omega
  have hw:((n:Nat):Int)=IntKind.i64.wrap (v-1):=by rw[wrap64 (by omega)];omega
  have k43:=rlastX_fn O s 43 43 rfl (by decide) (by omega)
  have k42:=rlastX_fn O s 42 42 rfl (by decide) (by omega)
  rw[O.h (lastI 43 s)] at k43
  rw[O.h (lastI 42 s)] at k42
  have ih:=fun t ht=>rreadX_fn O n (by omega) t ht n rfl
  rw[readN,if_neg h0]
  cases h43:lastN 43 s with
  | some i =>
   obtain⟨q1,q2⟩:=lastI_some (by decide) h43
   rw[q1] at k43
   have ka:=ih (s.take i) (by rw[List.length_take];omega)
   have kb:=ih (s.drop (i+1)) (by rw[List.length_drop];omega)
   have:=readS hS hv1 (i:=i) ⟨by omega,by rw[hsz];omega⟩ (by omega) hw (by simp only [O.h];rw[Int.toNat_natCast];exact cut_head s i) (by simp only [O.h];rw[show((i:Int)+1).toNat=i+1 by omega];exact cut_tail s (i+1)) k43 k42 ka kb
   rw[two_en O sumN 3 (fun _ _=>rfl)]
   exact this
  | none =>
   rw[lastI_none h43] at k43
   cases h42:lastN 42 s with
   | some i =>
    obtain⟨q1,q2⟩:=lastI_some (by decide) h42
    rw[q1] at k42
    have ka:=ih (s.take i) (by rw[List.length_take];omega)
    have kb:=ih (s.drop (i+1)) (by rw[List.length_drop];omega)
    have:=readM hS hv1 (i:=i) (m:=0) ⟨by omega,by rw[hsz];omega⟩ (by omega) hw (by simp only [O.h];rw[Int.toNat_natCast];exact cut_head s i) (by simp only [O.h];rw[show((i:Int)+1).toNat=i+1 by omega];exact cut_tail s (i+1)) k43 k42 ka kb
    simp only
    rw[two_en O mulN 4 (fun _ _=>rfl)]
    exact this
   | none =>
    rw[lastI_none h42] at k42
    simp only
    have kw:=rwhole_fn O s (by omega)
    by_cases hw2:wholeB s
    ·rw[if_pos hw2]
     rw[show O.o wholeD s=true by rw[O.h];exact wholeD_yes hw2] at kw
     have ka:=ih s.tail.dropLast (by rw[List.length_dropLast,List.length_tail];omega)
     exact readW hS hv1 (by rw[hsz];exact hw2.2.1) (by omega) hw (by simp only [O.h];exact cut_in s) k43 k42 kw ka
    rw[if_neg hw2]
    rw[show O.o wholeD s=false by rw[O.h];exact wholeD_not hw2] at kw
    by_cases h40:40∈s
    ·rw[if_pos h40]
     obtain⟨p1,p2⟩:=head_at h40
     obtain⟨p,hp⟩:∃ p,p=(headP s).length:=⟨_,rfl⟩
     have kn:=rname_fn O (headP s)
     have hdl:(tailP s).length≤s.length:=(List.dropWhile_sublist _).length_le
     have kd:=rwhole_fn O (tailP s) (by omega)
     have hb:∀ i:Nat,byteAt (O.o ofL s) i=((s.getD i 0).toNat:Int):=fun i=>by rw[O.h,byteAt_ofL]
     have ka:=ih (tailP s).tail.dropLast (by rw[List.length_dropLast,List.length_tail];omega)
     have hH:O.o ofL (headP s)=(O.o ofL s).extract 0 p:=by simp only [O.h];rw[head_take s,← hp];exact cut_head s p
     have hD:O.o ofL (tailP s)=(O.o ofL s).extract p (O.o ofL s).size:=by simp only [O.h];rw[tail_drop s,← hp];exact cut_tail s p
     have hA:O.o ofL (tailP s).tail.dropLast=(O.o ofL s).extract (p+1) ((O.o ofL s).size-1):=by simp only [O.h];rw[tail_drop s,← hp];exact cut_mid s p
     have hnp:∀ j:Nat,j<p→¬ byteAt (O.o ofL s) j=40:=fun j hj=>by rw[hb];exact head_no (by omega)
     have hpp:byteAt (O.o ofL s) p=40:=by rw[hb,hp];exact p2
     have hps:p<(O.o ofL s).size:=by rw[hsz,hp];exact p1
     cases hnm:nameL (headP s) with
     | false =>
      rw[show O.o nameL (headP s)=false by rw[O.h];exact hnm] at kn
      rw[if_neg (by simp)]
      have:=readC1 (qt:=O.o wholeD (tailP s)) hS hv1 (by omega) hw hps hnp hpp hH hD hA (by simp) k43 k42 kw kn kd ka
      rw[← zero_en O] at this
      exact this
     | true =>
      rw[show O.o nameL (headP s)=true by rw[O.h];exact hnm] at kn
      by_cases ht:wholeB (tailP s)
      ·rw[if_pos ⟨rfl,ht⟩]
       rw[show O.o wholeD (tailP s)=true by rw[O.h];exact wholeD_yes ht] at kd
       have htl:=ht.2.1
       have htl2:(tailP s).length=s.length-p:=by rw[tail_drop s,← hp,List.length_drop]
       have:=readC3 hS hv1 (by omega) hw hps hnp hpp hH hD hA (fun _=>by omega) k43 k42 kw kn kd ka
       rw[call_en O]
       exact this
      ·rw[if_neg (fun k=>ht k.2)]
       rw[show O.o wholeD (tailP s)=false by rw[O.h];exact wholeD_not ht] at kd
       have:=readC2 hS hv1 (by omega) hw hps hnp hpp hH hD hA (by simp) k43 k42 kw kn kd ka
       rw[← zero_en O] at this
       exact this
    ·rw[if_neg h40]
     have kp:=rplain_fn O s (by omega)
     have kt:=rpath_fn O (O.o ofL s) (by omega)
     rw[show O.o isPath (O.o ofL s)=pathL s by simp only [O.h];exact isPath_L s] at kt
     have e16:valI s (min s.length 16)=(natOf (s.take 16):Nat):=by
      rw[valI]
      by_cases h:s.length≤16
      ·rw[Nat.min_eq_left h,List.take_length,List.take_of_length_le h]
      ·rw[Nat.min_eq_right (by omega)]
     cases hpl:plainL s with
     | false =>
      rw[show O.o plainL s=false by rw[O.h];exact hpl] at kp
      rw[leafR,if_neg (by simp [hpl])]
      have:=readP (V:=0) (DS:=ByteArray.empty) rfl hS hv1 hs h40 k43 k42 kw kp kt (fun h=>nomatch h) (fun h=>nomatch h)
      rw[← Nds.nil O] at this
      exact this
     | true =>
      rw[show O.o plainL s=true by rw[O.h];exact hpl] at kp
      rw[leafR,if_pos hpl]
      have hlt:=valI_lt hpl (min s.length 16) (by omega)
      rw[e16] at hlt
      have kg:=rdigits_fn O (natOf (s.take 16)) (by omega) (natOf (s.take 16)) rfl
      have:=readD rfl hS hv1 hs h40 k43 k42 kw kp kt (fun _=>by rw[O.h];exact e16.symm) (fun _=>kg) (q:=decide (s.length≤15∧digN (natOf (s.take 16))=s)) hpl (by simp only [O.h];rw[decide_eq_true_eq,ofL_inj])
      rw[← Nds.nil O,show ByteArray.empty=O.o ofL [] by rw[O.h];rfl] at this
      exact this
set_option maxHeartbeats 1000000 in
theorem rparse_fn (O:Opq) (s:List UInt8) (hl:s.length≤4611686018427387904):Fn prog 13 [.str (O.o ofL s)] [] [.agg ((O.o parseV s).en O),.int .i64 (O.o parseE s)] []:=by
 have e0:O.o ofL []=ByteArray.empty:=by rw[O.h];rfl
 have e1:O.o Nds.enc []=[]:=Nds.nil O
 have hsz:(O.o ofL s).size=s.length:=by rw[O.h,size_ofL]
 obtain⟨L,hL⟩:∃ L:Nat,L=s.length:=⟨_,rfl⟩
 rw[← hL] at hsz
 have hzero:∀ {e:Int},e≠0→parseE s=e→O.o parseE s=e∧(O.o parseV s).en O=zeroN.en O:=fun {e} h0 h=>by
  rw[O.h,O.h];exact⟨h,by rw[parseV,if_neg (by rw[h];exact h0)]⟩
 by_cases h256:256<s.length
 ·obtain⟨q1,q2⟩:=hzero (e:=3) (by decide) (by rw[parseE,if_pos h256])
  rw[q1,q2,zero_en]
  obtain⟨S,hS⟩:∃ S,S=O.o ofL s:=⟨_,rfl⟩
  rw[← hS] at hsz ⊢
  clear hzero q1 q2
  refine go (fn:=Proofs.Tryz.f13) (n:=22) (rv:=[ResultVar.cell 2 50,ResultVar.tmp 3]) rfl (by decide) rfl (by decide +kernel) rfl rfl (by simp) fun F L C=>?_
  cbv
  (repeat' first|(refine Na ?_ fun _ _=>?_;(focus lia);cbv)|(refine Nl fun _ _ hq=>?_;(try simp only [lenS] at hq);cbv)|(refine Nm fun _ _=>?_;cbv)|(refine Br.t ?_ ?_;(focus first|assumption|lia);cbv)|(refine Br.f ?_ ?_;(focus first|assumption|lia);cbv)|(refine Br.mk (fun _=>?_) (fun _=>?_)<;>cbv)|(refine Need.mk ?_ ?_;rotate_left;cbv)|(refine R0 ?_;cbv))
  all_goals first
   | exact⟨rfl,rfl,trivial⟩
   | exact⟨rfl,trivial⟩
   | (exfalso;lia)
   | trace_state
 have ks:=rreadX_fn O 300 (by decide) s (by omega) 300 rfl
 obtain⟨r1,r2⟩:=read_parse (s:=s) (by omega)
 have hE:parseE s=if ¬ (parse0 s).2=([],false) then 5 else if deepB 8 (parse0 s).1=true then 13 else 0:=by
  rw[parseE,if_neg h256]
 obtain⟨S,hS⟩:∃ S,S=O.o ofL s:=⟨_,rfl⟩
 rw[← hS] at hsz ks ⊢
 have hL2:L≤256:=by omega
 cases hb:(readN 300 s).2 with
 | true =>
  rw[hb] at ks
  have hx:=r2 hb
  rw[hx] at ks
  have hp2:=r1.1 hb
  rw[if_neg (by rw[hp2];simp)] at hE
  obtain⟨e,_,he⟩:=parse0_nd (s:=s) hp2
  have hB:NdB 100000 (parse0 s).1:=by rw[he];exact(NdB.nd e).mono (by decide)
  have kd:=rdepthX_fn O 9 (by decide) _ hB 9 rfl
  have hd8:=deep_I (parse0 s).1
  have hd9:1≤depthI 9 (parse0 s).1∧depthI 9 (parse0 s).1≤10:=by have:=depthN_le 9 (parse0 s).1;rw[depthI];omega
  rw[O.h (depthI 9)] at kd
  obtain⟨D,hD⟩:∃ D,D=depthI 9 (parse0 s).1:=⟨_,rfl⟩
  rw[← hD] at kd hd8 hd9
  cases hd:deepB 8 (parse0 s).1 with
  | true =>
   rw[hd,if_pos rfl] at hE
   obtain⟨q1,q2⟩:=hzero (by decide) hE
   rw[q1,q2,zero_en]
   have hD8:8<D:=hd8.1 hd
   obtain⟨x,hx⟩:∃ x,x=(parse0 s).1:=⟨_,rfl⟩
   rw[← hx] at ks kd
   clear hzero q1 q2 hE he hB hd hd8 r1 r2 hb hp2 hx hD
   obtain⟨k,t,n,l⟩:=x
   refine go (fn:=Proofs.Tryz.f13) (n:=22) (rv:=[ResultVar.cell 2 50,ResultVar.tmp 3]) rfl (by decide) rfl (by decide +kernel) rfl rfl (by simp) fun F L C=>?_
   cbv
   (repeat' first|(refine Na ?_ fun _ _=>?_;(focus lia);cbv)|(refine CallThen.mk _ _ (C.fn (ks)) ?_;cbv)|(refine CallThen.mk _ _ (C.fn (kd)) ?_;cbv)|(refine Nl fun _ _ hq=>?_;(try simp only [lenS] at hq);cbv)|(refine Nm fun _ _=>?_;cbv)|(refine Br.t ?_ ?_;(focus first|assumption|lia);cbv)|(refine Br.f ?_ ?_;(focus first|assumption|lia);cbv)|(refine Br.mk (fun _=>?_) (fun _=>?_)<;>cbv)|(refine Need.mk ?_ ?_;rotate_left;cbv)|(refine R0 ?_;cbv))
   all_goals first
    | exact⟨rfl,rfl,trivial⟩
    | exact⟨rfl,trivial⟩
    | (exfalso;clear ks kd;lia)
    | trace_state
  | false =>
   rw[hd,if_neg (by simp)] at hE
   have q1:O.o parseE s=0:=by rw[O.h];exact hE
   have q2:(O.o parseV s).en O=(parse0 s).1.en O:=by rw[O.h parseV,parseV,if_pos hE]
   rw[q1,q2]
   have hD8:D≤8:=by
    have:¬ 8<D:=fun h=>by rw[hd8.2 h] at hd;cases hd
    omega
   obtain⟨x,hx⟩:∃ x,x=(parse0 s).1:=⟨_,rfl⟩
   rw[← hx] at ks kd ⊢
   clear hzero q1 q2 hE he hB hd hd8 r1 r2 hb hp2 hx hD
   obtain⟨k,t,n,l⟩:=x
   refine go (fn:=Proofs.Tryz.f13) (n:=22) (rv:=[ResultVar.cell 2 50,ResultVar.tmp 3]) rfl (by decide) rfl (by decide +kernel) rfl rfl (by simp) fun F L C=>?_
   cbv
   (repeat' first|(refine Na ?_ fun _ _=>?_;(focus lia);cbv)|(refine CallThen.mk _ _ (C.fn (ks)) ?_;cbv)|(refine CallThen.mk _ _ (C.fn (kd)) ?_;cbv)|(refine Nl fun _ _ hq=>?_;(try simp only [lenS] at hq);cbv)|(refine Nm fun _ _=>?_;cbv)|(refine Br.t ?_ ?_;(focus first|assumption|lia);cbv)|(refine Br.f ?_ ?_;(focus first|assumption|lia);cbv)|(refine Br.mk (fun _=>?_) (fun _=>?_)<;>cbv)|(refine Need.mk ?_ ?_;rotate_left;cbv)|(refine R0 ?_;cbv))
   all_goals first
    | exact⟨.refl _,trivial⟩
    | (exfalso;clear ks kd;lia)
    | trace_state
 | false =>
  rw[hb] at ks
  have hp2:¬ (parse0 s).2=([],false):=fun h=>by have:=r1.2 h;rw[hb] at this;cases this
  rw[if_pos hp2] at hE
  obtain⟨q1,q2⟩:=hzero (by decide) hE
  rw[q1,q2,zero_en]
  obtain⟨x,hx⟩:∃ x,x=(readN 300 s).1:=⟨_,rfl⟩
  rw[← hx] at ks
  clear hzero q1 q2 hE r1 r2 hb hp2 hx
  obtain⟨k,t,n,l⟩:=x
  refine go (fn:=Proofs.Tryz.f13) (n:=22) (rv:=[ResultVar.cell 2 50,ResultVar.tmp 3]) rfl (by decide) rfl (by decide +kernel) rfl rfl (by simp) fun F L C=>?_
  cbv
  (repeat' first|(refine Na ?_ fun _ _=>?_;(focus lia);cbv)|(refine CallThen.mk _ _ (C.fn (ks)) ?_;cbv)|(refine Nl fun _ _ hq=>?_;(try simp only [lenS] at hq);cbv)|(refine Nm fun _ _=>?_;cbv)|(refine Br.t ?_ ?_;(focus first|assumption|lia);cbv)|(refine Br.f ?_ ?_;(focus first|assumption|lia);cbv)|(refine Br.mk (fun _=>?_) (fun _=>?_)<;>cbv)|(refine Need.mk ?_ ?_;rotate_left;cbv)|(refine R0 ?_;cbv))
  all_goals first
   | exact⟨rfl,rfl,trivial⟩
   | exact⟨rfl,trivial⟩
   | (exfalso;clear ks;lia)
   | trace_state
end Go.Sym
