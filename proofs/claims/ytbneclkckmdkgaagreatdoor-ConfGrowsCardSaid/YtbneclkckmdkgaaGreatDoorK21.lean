/- The document's reading of expressions: a text. -/
import Derived.Test.YtbneclkckmdkgaaGreatDoorK17
import Derived.Test.YtbneclkckmdkgaaGreatDoorK18
import Derived.Test.YtbneclkckmdkgaaGreatDoorK19
import Derived.Test.YtbneclkckmdkgaaGreatDoorK20
set_option linter.all false
set_option linter.unusedVariables false
set_option linter.unusedSimpArgs false
namespace Go.Sym
open Go Go.Proofs.Tryz
set_option maxRecDepth 100000
theorem two_en (O:Opq) (f:Nd→Nd→Nd) (k:Int) (hf:∀ a b,f a b=.mk k [] 0 [a,b]) (x y:Nd):(f x y).en O=[.int .i64 k,.str ByteArray.empty,.int .i64 0,.sl false 0 false 4 [x.en O,y.en O]]:=by
 rw[hf,← Nds.two O x y,show ByteArray.empty=O.o ofL [] by rw[O.h];rfl];rfl
theorem call_en (O:Opq) (w:List UInt8) (x:Nd):(callN w x).en O=[.int .i64 5,.str (O.o ofL w),.int .i64 0,.sl false 0 false 4 [x.en O]]:=by
 rw[← Nds.one O x];rfl
theorem zero_en (O:Opq):zeroN.en O=[.int .i64 0,.str ByteArray.empty,.int .i64 0,.sl false 0 false 4 []]:=by
 rw[zeroN_en,show O.o ofL []=ByteArray.empty by rw[O.h];rfl,Nds.nil O]
theorem rread_fn (O:Opq):∀ (n:Nat),n≤300→∀ (s:List UInt8),s.length≤256→∀ v:Int,v=n →
  Fn prog 43 [.str (O.o ofL s),.int .i64 v] [] [.agg ((readN n s).1.en O),.bool (readN n s).2] []
 | 0,_,s,_,v,hv=>by
  have:=readZ (S:=O.o ofL s) (v:=v) (.inr hv)
  rw[← zero_en O] at this
  exact this
 | n+1,hn,s,hs,v,hv=>by
  have hS0:O.o ofL s=ByteArray.empty ↔ s=[]:=by rw[O.h];exact ofL_emp
  have hsz:(O.o ofL s).size=s.length:=by rw[O.h,size_ofL]
  by_cases h0:s=[]
  ·have:=readZ (S:=O.o ofL s) (v:=v) (.inl (hS0.2 h0))
   rw[← zero_en O] at this
   rw[readN,if_pos h0]
   exact this
  have hS:¬ O.o ofL s=ByteArray.empty:=fun e=>h0 (hS0.1 e)
  have hv1:1≤v∧v≤300:=by omega
  have hw:((n:Nat):Int)=IntKind.i64.wrap (v-1):=by rw[wrap64 (by omega)];omega
  have k43:=rlast_fn O s 43 43 rfl (by decide) (by omega)
  have k42:=rlast_fn O s 42 42 rfl (by decide) (by omega)
  rw[O.h (lastI 43 s)] at k43
  rw[O.h (lastI 42 s)] at k42
  have ih:=fun t ht=>rread_fn O n (by omega) t ht n rfl
  rw[readN,if_neg h0]
  cases h43:lastN 43 s with
  | some i =>
   obtain⟨q1,q2⟩:=lastI_some (by decide) h43
   rw[q1] at k43
   have ka:=ih (s.take i) (by rw[List.length_take];omega)
   have kb:=ih (s.drop (i+1)) (by rw[List.length_drop];omega)
   have:=readS hS hv1 (i:=i) ⟨by omega,by rw[hsz];omega⟩ (by omega) hw (by simp only [O.h];rw[Int.toNat_natCast];exact cut_head s i) (by simp only [O.h];rw[show((i:Int)+1).toNat=i+1 by omega];exact cut_tail s (i+1)) k43 k42 ka kb
   rw[two_en O sumN 3 (fun _ _=>rfl)]
   exact this
  | none =>
   rw[lastI_none h43] at k43
   cases h42:lastN 42 s with
   | some i =>
    obtain⟨q1,q2⟩:=lastI_some (by decide) h42
    rw[q1] at k42
    have ka:=ih (s.take i) (by rw[List.length_take];omega)
    have kb:=ih (s.drop (i+1)) (by rw[List.length_drop];omega)
    have:=readM hS hv1 (i:=i) (m:=0) ⟨by omega,by rw[hsz];omega⟩ (by omega) hw (by simp only [O.h];rw[Int.toNat_natCast];exact cut_head s i) (by simp only [O.h];rw[show((i:Int)+1).toNat=i+1 by omega];exact cut_tail s (i+1)) k43 k42 ka kb
    simp only
    rw[two_en O mulN 4 (fun _ _=>rfl)]
    exact this
   | none =>
    rw[lastI_none h42] at k42
    simp only
    have kw:=rwhole_fn O s (by omega)
    by_cases hw2:wholeB s
    ·rw[if_pos hw2]
     rw[show O.o wholeD s=true by rw[O.h];exact wholeD_yes hw2] at kw
     have ka:=ih s.tail.dropLast (by rw[List.length_dropLast,List.length_tail];omega)
     exact readW hS hv1 (by rw[hsz];exact hw2.2.1) (by omega) hw (by simp only [O.h];exact cut_in s) k43 k42 kw ka
    rw[if_neg hw2]
    rw[show O.o wholeD s=false by rw[O.h];exact wholeD_not hw2] at kw
    by_cases h40:40∈s
    ·rw[if_pos h40]
     obtain⟨p1,p2⟩:=head_at h40
     obtain⟨p,hp⟩:∃ p,p=(headP s).length:=⟨_,rfl⟩
     have kn:=rname_fn O (headP s)
     have hdl:(tailP s).length≤s.length:=(List.dropWhile_sublist _).length_le
     have kd:=rwhole_fn O (tailP s) (by omega)
     have hb:∀ i:Nat,byteAt (O.o ofL s) i=((s.getD i 0).toNat:Int):=fun i=>by rw[O.h,byteAt_ofL]
     have ka:=ih (tailP s).tail.dropLast (by rw[List.length_dropLast,List.length_tail];omega)
     have hH:O.o ofL (headP s)=(O.o ofL s).extract 0 p:=by simp only [O.h];rw[head_take s,← hp];exact cut_head s p
     have hD:O.o ofL (tailP s)=(O.o ofL s).extract p (O.o ofL s).size:=by simp only [O.h];rw[tail_drop s,← hp];exact cut_tail s p
     have hA:O.o ofL (tailP s).tail.dropLast=(O.o ofL s).extract (p+1) ((O.o ofL s).size-1):=by simp only [O.h];rw[tail_drop s,← hp];exact cut_mid s p
     have hnp:∀ j:Nat,j<p→¬ byteAt (O.o ofL s) j=40:=fun j hj=>by rw[hb];exact head_no (by omega)
     have hpp:byteAt (O.o ofL s) p=40:=by rw[hb,hp];exact p2
     have hps:p<(O.o ofL s).size:=by rw[hsz,hp];exact p1
     cases hnm:nameL (headP s) with
     | false =>
      rw[show O.o nameL (headP s)=false by rw[O.h];exact hnm] at kn
      rw[if_neg (by simp)]
      have:=readC1 (qt:=O.o wholeD (tailP s)) hS hv1 (by omega) hw hps hnp hpp hH hD hA (by simp) k43 k42 kw kn kd ka
      rw[← zero_en O] at this
      exact this
     | true =>
      rw[show O.o nameL (headP s)=true by rw[O.h];exact hnm] at kn
      by_cases ht:wholeB (tailP s)
      ·rw[if_pos ⟨rfl,ht⟩]
       rw[show O.o wholeD (tailP s)=true by rw[O.h];exact wholeD_yes ht] at kd
       have htl:=ht.2.1
       have htl2:(tailP s).length=s.length-p:=by rw[tail_drop s,← hp,List.length_drop]
       have:=readC3 hS hv1 (by omega) hw hps hnp hpp hH hD hA (fun _=>by omega) k43 k42 kw kn kd ka
       rw[call_en O]
       exact this
      ·rw[if_neg (fun k=>ht k.2)]
       rw[show O.o wholeD (tailP s)=false by rw[O.h];exact wholeD_not ht] at kd
       have:=readC2 hS hv1 (by omega) hw hps hnp hpp hH hD hA (by simp) k43 k42 kw kn kd ka
       rw[← zero_en O] at this
       exact this
    ·rw[if_neg h40]
     have kp:=rplain_fn O s (by omega)
     have kt:=rpath_fn O (O.o ofL s) (by omega)
     rw[show O.o isPath (O.o ofL s)=pathL s by simp only [O.h];exact isPath_L s] at kt
     have e16:valI s (min s.length 16)=(natOf (s.take 16):Nat):=by
      rw[valI]
      by_cases h:s.length≤16
      ·rw[Nat.min_eq_left h,List.take_length,List.take_of_length_le h]
      ·rw[Nat.min_eq_right (by omega)]
     cases hpl:plainL s with
     | false =>
      rw[show O.o plainL s=false by rw[O.h];exact hpl] at kp
      rw[leafR,if_neg (by simp [hpl])]
      have:=readP (V:=0) (DS:=ByteArray.empty) rfl hS hv1 hs h40 k43 k42 kw kp kt (fun h=>nomatch h) (fun h=>nomatch h)
      rw[← Nds.nil O] at this
      exact this
     | true =>
      rw[show O.o plainL s=true by rw[O.h];exact hpl] at kp
      rw[leafR,if_pos hpl]
      have hlt:=valI_lt hpl (min s.length 16) (by omega)
      rw[e16] at hlt
      have kg:=rdigits_fn O (natOf (s.take 16)) (by omega) (natOf (s.take 16)) rfl
      have:=readD rfl hS hv1 hs h40 k43 k42 kw kp kt (fun _=>by rw[O.h];exact e16.symm) (fun _=>kg) (q:=decide (s.length≤15∧digN (natOf (s.take 16))=s)) hpl (by simp only [O.h];rw[decide_eq_true_eq,ofL_inj])
      rw[← Nds.nil O,show ByteArray.empty=O.o ofL [] by rw[O.h];rfl] at this
      exact this
set_option maxHeartbeats 1000000 in
theorem rparse_fn (O:Opq) (s:List UInt8) (hl:s.length≤4611686018427387904):Fn prog 39 [.str (O.o ofL s)] [] [.agg ((O.o parseV s).en O),.int .i64 (O.o parseE s)] []:=by
 have e0:O.o ofL []=ByteArray.empty:=by rw[O.h];rfl
 have e1:O.o Nds.enc []=[]:=Nds.nil O
 have hsz:(O.o ofL s).size=s.length:=by rw[O.h,size_ofL]
 obtain⟨L,hL⟩:∃ L:Nat,L=s.length:=⟨_,rfl⟩
 rw[← hL] at hsz
 have hzero:∀ {e:Int},e≠0→parseE s=e→O.o parseE s=e∧(O.o parseV s).en O=zeroN.en O:=fun {e} h0 h=>by
  rw[O.h,O.h];exact⟨h,by rw[parseV,if_neg (by rw[h];exact h0)]⟩
 by_cases h256:256<s.length
 ·obtain⟨q1,q2⟩:=hzero (e:=3) (by decide) (by rw[parseE,if_pos h256])
  rw[q1,q2,zero_en]
  obtain⟨S,hS⟩:∃ S,S=O.o ofL s:=⟨_,rfl⟩
  rw[← hS] at hsz ⊢
  clear hzero q1 q2
  refine go (fn:=Proofs.Tryz.f39) (n:=22) (rv:=[ResultVar.cell 2 66,ResultVar.tmp 3]) rfl (by decide) rfl (by decide +kernel) rfl rfl (by simp) fun F L C=>?_
  cbv
  (repeat' first|(refine Na ?_ fun _ _=>?_;(focus lia);cbv)|(refine Nl fun _ _ hq=>?_;(try simp only [lenS] at hq);cbv)|(refine Nm fun _ _=>?_;cbv)|(refine Br.t ?_ ?_;(focus first|assumption|lia);cbv)|(refine Br.f ?_ ?_;(focus first|assumption|lia);cbv)|(refine Br.mk (fun _=>?_) (fun _=>?_)<;>cbv)|(refine Need.mk ?_ ?_;rotate_left;cbv)|(refine R0 ?_;cbv))
  all_goals first
   | exact⟨rfl,rfl,trivial⟩
   | exact⟨rfl,trivial⟩
   | (exfalso;lia)
   | trace_state
 have ks:=rread_fn O 300 (by decide) s (by omega) 300 rfl
 obtain⟨r1,r2⟩:=read_parse (s:=s) (by omega)
 have hE:parseE s=if ¬ (parse0 s).2=([],false) then 5 else if deepB 8 (parse0 s).1=true then 13 else 0:=by
  rw[parseE,if_neg h256]
 obtain⟨S,hS⟩:∃ S,S=O.o ofL s:=⟨_,rfl⟩
 rw[← hS] at hsz ks ⊢
 have hL2:L≤256:=by omega
 cases hb:(readN 300 s).2 with
 | true =>
  rw[hb] at ks
  have hx:=r2 hb
  rw[hx] at ks
  have hp2:=r1.1 hb
  rw[if_neg (by rw[hp2];simp)] at hE
  obtain⟨e,_,he⟩:=parse0_nd (s:=s) hp2
  have hB:NdB 100000 (parse0 s).1:=by rw[he];exact(NdB.nd e).mono (by decide)
  have kd:=rdepth_fn O 9 (by decide) _ hB 9 rfl
  have hd8:=deep_I (parse0 s).1
  have hd9:1≤depthI 9 (parse0 s).1∧depthI 9 (parse0 s).1≤10:=by have:=depthN_le 9 (parse0 s).1;rw[depthI];omega
  rw[O.h (depthI 9)] at kd
  obtain⟨D,hD⟩:∃ D,D=depthI 9 (parse0 s).1:=⟨_,rfl⟩
  rw[← hD] at kd hd8 hd9
  cases hd:deepB 8 (parse0 s).1 with
  | true =>
   rw[hd,if_pos rfl] at hE
   obtain⟨q1,q2⟩:=hzero (by decide) hE
   rw[q1,q2,zero_en]
   have hD8:8<D:=hd8.1 hd
   obtain⟨x,hx⟩:∃ x,x=(parse0 s).1:=⟨_,rfl⟩
   rw[← hx] at ks kd
   clear hzero q1 q2 hE he hB hd hd8 r1 r2 hb hp2 hx hD
   obtain⟨k,t,n,l⟩:=x
   refine go (fn:=Proofs.Tryz.f39) (n:=22) (rv:=[ResultVar.cell 2 66,ResultVar.tmp 3]) rfl (by decide) rfl (by decide +kernel) rfl rfl (by simp) fun F L C=>?_
   cbv
   (repeat' first|(refine Na ?_ fun _ _=>?_;(focus lia);cbv)|(refine CallThen.mk _ _ (C.fn (ks)) ?_;cbv)|(refine CallThen.mk _ _ (C.fn (kd)) ?_;cbv)|(refine Nl fun _ _ hq=>?_;(try simp only [lenS] at hq);cbv)|(refine Nm fun _ _=>?_;cbv)|(refine Br.t ?_ ?_;(focus first|assumption|lia);cbv)|(refine Br.f ?_ ?_;(focus first|assumption|lia);cbv)|(refine Br.mk (fun _=>?_) (fun _=>?_)<;>cbv)|(refine Need.mk ?_ ?_;rotate_left;cbv)|(refine R0 ?_;cbv))
   all_goals first
    | exact⟨rfl,rfl,trivial⟩
    | exact⟨rfl,trivial⟩
    | (exfalso;clear ks kd;lia)
    | trace_state
  | false =>
   rw[hd,if_neg (by simp)] at hE
   have q1:O.o parseE s=0:=by rw[O.h];exact hE
   have q2:(O.o parseV s).en O=(parse0 s).1.en O:=by rw[O.h parseV,parseV,if_pos hE]
   rw[q1,q2]
   have hD8:D≤8:=by
    have:¬ 8<D:=fun h=>by rw[hd8.2 h] at hd;cases hd
    omega
   obtain⟨x,hx⟩:∃ x,x=(parse0 s).1:=⟨_,rfl⟩
   rw[← hx] at ks kd ⊢
   clear hzero q1 q2 hE he hB hd hd8 r1 r2 hb hp2 hx hD
   obtain⟨k,t,n,l⟩:=x
   refine go (fn:=Proofs.Tryz.f39) (n:=22) (rv:=[ResultVar.cell 2 66,ResultVar.tmp 3]) rfl (by decide) rfl (by decide +kernel) rfl rfl (by simp) fun F L C=>?_
   cbv
   (repeat' first|(refine Na ?_ fun _ _=>?_;(focus lia);cbv)|(refine CallThen.mk _ _ (C.fn (ks)) ?_;cbv)|(refine CallThen.mk _ _ (C.fn (kd)) ?_;cbv)|(refine Nl fun _ _ hq=>?_;(try simp only [lenS] at hq);cbv)|(refine Nm fun _ _=>?_;cbv)|(refine Br.t ?_ ?_;(focus first|assumption|lia);cbv)|(refine Br.f ?_ ?_;(focus first|assumption|lia);cbv)|(refine Br.mk (fun _=>?_) (fun _=>?_)<;>cbv)|(refine Need.mk ?_ ?_;rotate_left;cbv)|(refine R0 ?_;cbv))
   all_goals first
    | exact⟨.refl _,trivial⟩
    | (exfalso;clear ks kd;lia)
    | trace_state
 | false =>
  rw[hb] at ks
  have hp2:¬ (parse0 s).2=([],false):=fun h=>by have:=r1.2 h;rw[hb] at this;cases this
  rw[if_pos hp2] at hE
  obtain⟨q1,q2⟩:=hzero (by decide) hE
  rw[q1,q2,zero_en]
  obtain⟨x,hx⟩:∃ x,x=(readN 300 s).1:=⟨_,rfl⟩
  rw[← hx] at ks
  clear hzero q1 q2 hE r1 r2 hb hp2 hx
  obtain⟨k,t,n,l⟩:=x
  refine go (fn:=Proofs.Tryz.f39) (n:=22) (rv:=[ResultVar.cell 2 66,ResultVar.tmp 3]) rfl (by decide) rfl (by decide +kernel) rfl rfl (by simp) fun F L C=>?_
  cbv
  (repeat' first|(refine Na ?_ fun _ _=>?_;(focus lia);cbv)|(refine CallThen.mk _ _ (C.fn (ks)) ?_;cbv)|(refine Nl fun _ _ hq=>?_;(try simp only [lenS] at hq);cbv)|(refine Nm fun _ _=>?_;cbv)|(refine Br.t ?_ ?_;(focus first|assumption|lia);cbv)|(refine Br.f ?_ ?_;(focus first|assumption|lia);cbv)|(refine Br.mk (fun _=>?_) (fun _=>?_)<;>cbv)|(refine Need.mk ?_ ?_;rotate_left;cbv)|(refine R0 ?_;cbv))
  all_goals first
   | exact⟨rfl,rfl,trivial⟩
   | exact⟨rfl,trivial⟩
   | (exfalso;clear ks;lia)
   | trace_state
def StrL (D:List (List UInt8)):List (List PV):=Strs (D.map ofL)
theorem StrL_snoc (O:Opq) (D:List (List UInt8)) (p:List UInt8):O.o StrL (D++[p])=O.o StrL D++[[.str (O.o ofL p)]]:=by
 have:=Strs_snoc O D p
 rw[O.h StrL]
 rw[O.h Strs] at this
 exact this
theorem room1 {n m:Nat} {x:List PV} (h:n≤1000000001) (hm:m≤16):(n+[x].length) * m≤2 ^ 44∧n+[x].length≤2 ^ 60:=by
 have:(n+[x].length) * m≤(1000000001+1) * 16:=Nat.mul_le_mul (by simp;omega) hm
 exact⟨Nat.le_trans this (by decide),by simp;omega⟩
set_option maxHeartbeats 2000000 in
theorem reall_fn (O:Opq) (s:List UInt8) (hl:s.length≤1000000000):Fn prog 37 [.str (O.o ofL s)] [] [.sl false 0 false 4 (O.o Nds.enc (O.o allV s)),.int .i64 (O.o allE s)] []:=by
 have e1:O.o Nds.enc []=[]:=Nds.nil O
 have hsz:(O.o ofL s).size=s.length:=by rw[O.h,size_ofL]
 have hb:∀ i:Nat,byteAt (O.o ofL s) i=((s.getD i 0).toNat:Int):=fun i=>by rw[O.h,byteAt_ofL]
 have hcut:∀ a b:Nat,O.o ofL ((s.take b).drop a)=(O.o ofL s).extract a b:=fun a b=>by simp only [O.h];exact cut_range s a b
 have hnil:∀ {e:Int},e≠0→allE s=e→O.o allE s=e∧O.o Nds.enc (O.o allV s)=[]:=fun {e} h0 h=>by
  rw[O.h allE,O.h allV]
  exact⟨h,by rw[allV,if_neg (by rw[h];exact h0)];exact e1⟩
 obtain⟨S,hS⟩:∃ S,S=O.o ofL s:=⟨_,rfl⟩
 rw[← hS] at hsz hb hcut ⊢
 obtain⟨R,hR⟩:∃ R,R=O.o Nds.enc (O.o allV s):=⟨_,rfl⟩
 obtain⟨E,hE⟩:∃ E,E=O.o allE s:=⟨_,rfl⟩
 rw[← hR,← hE] at hnil ⊢
 obtain⟨z,hz⟩:∃ z:Nat,z=0:=⟨_,rfl⟩
 obtain⟨Z,hZ⟩:∃ z:List (List UInt8),z=[]:=⟨_,rfl⟩
 have hZ0:O.o StrL Z=[]:=by rw[O.h,hZ];rfl
 have hSl:∀ D:List (List UInt8),(O.o StrL D).length=D.length:=fun D=>by rw[O.h,StrL,Strs_len,List.length_map]
 obtain⟨N,hN⟩:∃ N:Nat,N=s.length+1:=⟨_,rfl⟩
 clear hS
 refine go (fn:=Proofs.Tryz.f37) (n:=62) (rv:=[ResultVar.tmp 2,ResultVar.tmp 3]) rfl (by decide) rfl (by decide +kernel) rfl rfl (by simp) fun F L C=>?_
 cbv
 (repeat' first|(refine Na ?_ fun _ _=>?_;(focus lia);cbv)|(refine Nl fun _ _ hq=>?_;(try simp only [lenS] at hq);cbv)|(refine Nm fun _ _=>?_;cbv)|(refine Br.t ?_ ?_;(focus first|assumption|lia);cbv)|(refine Br.f ?_ ?_;(focus first|assumption|lia);cbv)|(refine Br.mk (fun _=>?_) (fun _=>?_)<;>cbv)|(refine Need.mk ?_ ?_;rotate_left;cbv)|(refine R0 ?_;cbv))
 refine LoopThen.mk (C.loopAt (ι:=Nat×Nat×List (List UInt8)) [(4,6),(12,36)] (fun x=>[(4,.ref 50),(5,.int .i64 x.2.1),(6,.int .i64 x.1),(11,.top)]) (fun x=>[(50,.arr 0 none 1 (O.o StrL x.2.2))])
  (fun x=>CutAt s x.1 x.2.1 x.2.2) (fun x=>N-x.1) (by decide +kernel) (Start.mk (z,z,Z) [(50,.loc 832)] [] (by subst hz;subst hZ;exact CutAt.start s) ?_) ?_)
 ·cbv
  (repeat' apply And.intro)<;>first|exact True.intro|exact WkR.refl _|rfl|exact .of_eq hZ0|(clear hb hcut hSl;lia)|trace_state
 rintro ⟨i,st,D⟩ g
 cbv
 have g1:CutAt s i st D:=g
 clear g hZ0
 obtain⟨c1,c2⟩:=g1.le
 have c3:=g1.count
 have hDl:=hSl D
 have hal:(O.o StrL D).length≤1000000001:=by omega
 by_cases hi:i<s.length
 ·have hv:=hb i
  have h44:=u8_int (c:=s.getD i 0) (k:=44) (by decide)
  by_cases hc:s.getD i 0=44
  ·have hv2:byteAt S i=44:=by rw[hv];exact h44.2 hc
   have g2:=g1.comma hi hc
   have hx:=hcut st i
   have hsn:=StrL_snoc O D ((s.take i).drop st)
   obtain⟨x,hxx⟩:∃ x,x=(s.take i).drop st:=⟨_,rfl⟩
   rw[← hxx] at hx hsn g2
   obtain⟨D1,hD1⟩:∃ D1,D1=D++[x]:=⟨_,rfl⟩
   rw[← hD1] at hsn g2
   obtain⟨X,hX⟩:∃ X,X=O.o ofL x:=⟨_,rfl⟩
   rw[← hX] at hx hsn
   clear hb hcut hSl hv h44 hc g1 hxx hX hD1
   (repeat' first|(refine Named.at' X hx ?_;cbv)|(refine Na ?_ fun _ _=>?_;(focus lia);cbv)|(refine Back.to (i+1,i+1,D1) [(50,.loc 2304)] [] ?_ fun _ _=>?_;rotate_left;cbv)|(refine Nl fun _ _ hq=>?_;(try simp only [lenS] at hq);cbv)|(refine Nm fun _ _=>?_;cbv)|(refine Br.t ?_ ?_;(focus first|assumption|lia);cbv)|(refine Br.f ?_ ?_;(focus first|assumption|lia);cbv)|(refine Br.mk (fun _=>?_) (fun _=>?_)<;>cbv)|(refine Need.mk ?_ ?_;rotate_left;cbv)|(refine R0 ?_;cbv))
   all_goals first
    | exact room1 hal (by decide)
    | exact⟨g2,by show N-(i+1)<N-i;omega⟩
    | (rename_i R eR q eq y ey;subst ey;refine⟨.of_eq (hsn.trans eR.symm),?_,?_,trivial⟩<;>clear hx hsn g2<;>lia)
    | (rename_i R eR i1 e1 i2 e2 y ey;subst ey;refine⟨.of_eq (hsn.trans eR.symm),?_,?_,trivial⟩<;>clear hx hsn g2<;>lia)
    | (clear hx hsn g2;lia)
    | trace_state
  ·have hv2:¬ byteAt S i=44:=by rw[hv];exact fun e=>hc (h44.1 e)
   have g2:=g1.go hi hc
   clear hb hcut hSl hv h44 hc g1
   (repeat' first|(refine Na ?_ fun _ _=>?_;(focus lia);cbv)|(refine Back.to (i+1,st,D) [] [] ?_ fun _ _=>?_;rotate_left;cbv)|(refine Nl fun _ _ hq=>?_;(try simp only [lenS] at hq);cbv)|(refine Nm fun _ _=>?_;cbv)|(refine Br.t ?_ ?_;(focus first|assumption|lia);cbv)|(refine Br.f ?_ ?_;(focus first|assumption|lia);cbv)|(refine Br.mk (fun _=>?_) (fun _=>?_)<;>cbv)|(refine Need.mk ?_ ?_;rotate_left;cbv)|(refine R0 ?_;cbv))
   all_goals first
    | exact⟨g2,by show N-(i+1)<N-i;omega⟩
    | (rename_i y ey;subst ey;refine⟨.refl _,rfl,?_,trivial⟩;clear g2;lia)
    | (clear g2;lia)
    | (exfalso;clear g2;lia)
    | trace_state
 ·by_cases hi2:i=s.length
  ·have g2:=g1.last hi2
   have hx:=hcut st i
   have hsn:=StrL_snoc O D ((s.take i).drop st)
   obtain⟨x,hxx⟩:∃ x,x=(s.take i).drop st:=⟨_,rfl⟩
   rw[← hxx] at hx hsn g2
   obtain⟨D1,hD1⟩:∃ D1,D1=D++[x]:=⟨_,rfl⟩
   rw[← hD1] at hsn g2
   obtain⟨X,hX⟩:∃ X,X=O.o ofL x:=⟨_,rfl⟩
   rw[← hX] at hx hsn
   clear hb hcut hSl g1 hxx hX hD1
   (repeat' first|(refine Named.at' X hx ?_;cbv)|(refine Na ?_ fun _ _=>?_;(focus lia);cbv)|(refine Back.to (i+1,i+1,D1) [(50,.loc 2304)] [] ?_ fun _ _=>?_;rotate_left;cbv)|(refine Nl fun _ _ hq=>?_;(try simp only [lenS] at hq);cbv)|(refine Nm fun _ _=>?_;cbv)|(refine Br.t ?_ ?_;(focus first|assumption|lia);cbv)|(refine Br.f ?_ ?_;(focus first|assumption|lia);cbv)|(refine Br.mk (fun _=>?_) (fun _=>?_)<;>cbv)|(refine Need.mk ?_ ?_;rotate_left;cbv)|(refine R0 ?_;cbv))
   all_goals first
    | exact room1 hal (by decide)
    | exact⟨g2,by show N-(i+1)<N-i;omega⟩
    | (rename_i R eR q eq y ey;subst ey;refine⟨.of_eq (hsn.trans eR.symm),?_,?_,trivial⟩<;>clear hx hsn g2<;>lia)
    | (rename_i R eR i1 e1 i2 e2 y ey;subst ey;refine⟨.of_eq (hsn.trans eR.symm),?_,?_,trivial⟩<;>clear hx hsn g2<;>lia)
    | (clear hx hsn g2;lia)
    | trace_state
  ·have hD:=g1.done (by omega)
   have hD0:0<D.length:=by rw[hD,split_count];omega
   clear hb hcut hSl g1
   by_cases h4:4<D.length
   ·obtain⟨q1,q2⟩:=hnil (e:=5) (by decide) (by rw[allE,if_pos (by rw[← hD];exact h4)])
    clear hnil hD
    (repeat' first|(refine Na ?_ fun _ _=>?_;(focus lia);cbv)|(refine Nl fun _ _ hq=>?_;(try simp only [lenS] at hq);cbv)|(refine Nm fun _ _=>?_;cbv)|(refine Br.t ?_ ?_;(focus first|assumption|lia);cbv)|(refine Br.f ?_ ?_;(focus first|assumption|lia);cbv)|(refine Br.mk (fun _=>?_) (fun _=>?_)<;>cbv)|(refine Need.mk ?_ ?_;rotate_left;cbv)|(refine R0 ?_;cbv))
    all_goals first
     | exact⟨q2,q1,trivial⟩
     | (exfalso;lia)
     | trace_state
   have hAE:allE s=firstE D:=by rw[allE,if_neg (by rw[← hD];exact h4),← hD]
   have hz1:O.o Nds.enc (O.o (accV s) z)=[]:=by rw[O.h (accV s),hz];exact e1
   obtain⟨M,hM⟩:∃ M:Nat,M=D.length:=⟨_,rfl⟩
   (repeat' first|(refine Na ?_ fun _ _=>?_;(focus lia);cbv)|(refine Nl fun _ _ hq=>?_;(try simp only [lenS] at hq);cbv)|(refine Nm fun _ _=>?_;cbv)|(refine Br.t ?_ ?_;(focus first|assumption|lia);cbv)|(refine Br.f ?_ ?_;(focus first|assumption|lia);cbv)|(refine Br.mk (fun _=>?_) (fun _=>?_)<;>cbv)|(refine Need.mk ?_ ?_;rotate_left;cbv)|(refine R0 ?_;cbv))
   all_goals try(exfalso;clear hz1;lia)
   refine LoopThen.mk (C.loopAt (ι:=Nat) [(2,3),(7,10),(41,61)] (fun j=>[(7,.ref 51),(8,.int .i64 j),(9,.top),(40,.top)]) (fun j=>[(50,.arr 0 none 1 (O.o StrL D)),(51,.arr 0 none 4 (O.o Nds.enc (O.o (accV s) j)))])
    (fun j=>j≤M∧∀ (k:Nat) q,k<j→D[k]?=some q→parseE q=0) (fun j=>M-j) (by decide +kernel) (Start.mk z [(51,.loc 2688)] [] ⟨by omega,fun j q hj=>by omega⟩ ?_) ?_)
   ·cbv
    (repeat' apply And.intro)<;>first|exact True.intro|exact WkR.refl _|rfl|exact .of_eq hz1|exact hz1|(clear hz1;lia)|trace_state
   intro j g
   cbv
   have g1:j≤M:=g.1
   have g2:=g.2
   clear g hz1
   by_cases hj:j<D.length
   ·obtain⟨p,hp⟩:∃ p,D[j]?=some p:=⟨D[j],by simp [hj]⟩
    have hpm:(D.map ofL)[j]?=some (O.o ofL p):=by rw[List.getElem?_map,hp,O.h];rfl
    have hpl:p.length≤s.length:=piece_len (by rw[← hD];exact List.mem_of_getElem? hp)
    have kp:=rparse_fn O p (by omega)
    have hrow:∀ m:Nat,m=j→0≤Int.ofNat m∧(O.o StrL D)[(Int.ofNat m).toNat]?=some [.str (O.o ofL p)]:=fun m e=>by subst e;exact⟨Int.natCast_nonneg _,by rw[O.h,StrL,Strs_eq,List.getElem?_map,show(Int.ofNat m).toNat=m from rfl,hpm];rfl⟩
    by_cases he:parseE p=0
    ·rw[show O.o parseE p=0 by rw[O.h];exact he] at kp
     have hst:∀ (k:Nat) q,k<j+1→D[k]?=some q→parseE q=0:=fun k q hk hq=>by
      by_cases ej:k=j
      ·subst ej;rw[hp] at hq;cases hq;exact he
      ·exact g2 k q (by omega) hq
     have hsn:=accV_snoc O (s:=s) (i:=j) (by rw[← hD];exact hp)
     rw[show accV s (j+1)=O.o (accV s) (j+1) by rw[O.h],show accV s j=O.o (accV s) j by rw[O.h]] at hsn
     have hacl:(O.o Nds.enc (O.o (accV s) j)).length≤4:=by
      rw[Nds.en_len,O.h,accV,List.length_map,List.length_take];omega
     obtain⟨x,hx⟩:∃ x,x=O.o parseV p:=⟨_,rfl⟩
     rw[← hx] at kp hsn
     obtain⟨A1,hA1⟩:∃ A,A=O.o Nds.enc (O.o (accV s) (j+1)):=⟨_,rfl⟩
     clear hx g2 hnil hAE hpm hD hp
     obtain⟨k,t,nn,l⟩:=x
     (repeat' first|(refine Na ?_ fun _ _=>?_;(focus lia);cbv)|(refine Ex.mk _ (hrow _ (by assumption)) ?_;cbv)|(refine CallThen.mk _ _ (C.fn (kp)) ?_;cbv)|(refine Back.to (j+1) [(51,.loc 4032)] [] ?_ fun _ _=>?_;rotate_left;cbv)|(refine Nl fun _ _ hq=>?_;(try simp only [lenS] at hq);cbv)|(refine Nm fun _ _=>?_;cbv)|(refine Br.t ?_ ?_;(focus first|assumption|lia);cbv)|(refine Br.f ?_ ?_;(focus first|assumption|lia);cbv)|(refine Br.mk (fun _=>?_) (fun _=>?_)<;>cbv)|(refine Need.mk ?_ ?_;rotate_left;cbv)|(refine R0 ?_;cbv))
     all_goals first
      | exact roomN hacl (by decide)
      | exact⟨⟨by omega,hst⟩,by show M-(j+1)<M-j;omega⟩
      | (rename_i R eR q eq y ey;subst ey;refine⟨.of_eq (hsn.trans eR.symm),.refl _,?_,trivial⟩;clear hrow kp hsn hst;lia)
      | (rename_i R eR q eq y ey;subst ey;refine⟨.refl _,.of_eq (hsn.trans eR.symm),?_,trivial⟩;clear hrow kp hsn hst;lia)
      | (clear hrow kp hsn hst;lia)
      | (exfalso;clear hrow kp hsn hst;lia)
      | trace_state
    ·have hAE2:firstE D=parseE p:=firstE_at hp he g2
     obtain⟨q1,q2⟩:=hnil he (by rw[hAE,hAE2])
     obtain⟨v,hv⟩:∃ v,v=parseE p:=⟨_,rfl⟩
     rw[show O.o parseE p=v by rw[O.h,hv]] at kp
     rw[← hv] at he q1
     obtain⟨x,hx⟩:∃ x,x=O.o parseV p:=⟨_,rfl⟩
     rw[← hx] at kp
     clear hx g2 hnil hAE hpm hD hp hAE2 hv
     obtain⟨k,t,nn,l⟩:=x
     (repeat' first|(refine Na ?_ fun _ _=>?_;(focus lia);cbv)|(refine Ex.mk _ (hrow _ (by assumption)) ?_;cbv)|(refine CallThen.mk _ _ (C.fn (kp)) ?_;cbv)|(refine Nl fun _ _ hq=>?_;(try simp only [lenS] at hq);cbv)|(refine Nm fun _ _=>?_;cbv)|(refine Br.t ?_ ?_;(focus first|assumption|lia);cbv)|(refine Br.f ?_ ?_;(focus first|assumption|lia);cbv)|(refine Br.mk (fun _=>?_) (fun _=>?_)<;>cbv)|(refine Need.mk ?_ ?_;rotate_left;cbv)|(refine R0 ?_;cbv))
     all_goals first
      | exact⟨q2,q1,trivial⟩
      | (clear hrow kp;lia)
      | (exfalso;clear hrow kp;lia)
      | (exfalso;exact he (by assumption))
      | trace_state
   ·have hA0:allE s=0:=by rw[hAE];exact firstE_zero fun p hp=>by obtain⟨k,hk,rfl⟩:=List.getElem_of_mem hp;exact g2 k _ (by omega) (by simp)
    have q1:E=0:=by rw[hE,O.h];exact hA0
    have q2:R=O.o Nds.enc (O.o (accV s) j):=by
     rw[hR,O.h allV,O.h (accV s),allV,if_pos hA0,accV,List.take_of_length_le (by rw[← hD];omega)]
    clear g2 hnil hAE hD hE hR
    (repeat' first|(refine Na ?_ fun _ _=>?_;(focus lia);cbv)|(refine RetThen.mk [] [51] ?_;cbv)|(refine Nl fun _ _ hq=>?_;(try simp only [lenS] at hq);cbv)|(refine Nm fun _ _=>?_;cbv)|(refine Br.t ?_ ?_;(focus first|assumption|lia);cbv)|(refine Br.f ?_ ?_;(focus first|assumption|lia);cbv)|(refine Br.mk (fun _=>?_) (fun _=>?_)<;>cbv)|(refine Need.mk ?_ ?_;rotate_left;cbv)|(refine R0 ?_;cbv))
    all_goals first
     | exact⟨.of_eq q2,q1,trivial⟩
     | (refine⟨.of_eq ?_,q1,trivial⟩;rw[q2];symm;assumption)
     | (exfalso;lia)
     | trace_state
def cntB (n l:Int):Bool:=decide (l≤n∧n≤2147483647)
theorem cntB_iff {n l:Int}:cntB n l=true ↔ countB n l:=by simp [cntB,countB,maxCount]
theorem ccount_fn (O:Opq) (n l:Int):Fn prog 24 [.int .i64 n,.int .i64 l] [] [.bool (O.o cntB n l)] []:=by
 have hB:O.o cntB n l=true ↔ (l≤n∧n≤2147483647):=by rw[O.h];simp [cntB]
 obtain⟨B,eB⟩:∃ B,B=O.o cntB n l:=⟨_,rfl⟩
 rw[← eB] at hB ⊢
 clear eB
 cases B
 all_goals
  refine go (fn:=Proofs.Tryz.f24) (n:=10) (rv:=[ResultVar.tmp 4]) rfl (by decide) rfl (by decide +kernel) rfl rfl (by simp) fun F L C=>?_
  cbv
  (repeat' first|(refine Na ?_ fun _ _=>?_;(focus lia);cbv)|(refine Nl fun _ _ hq=>?_;(try simp only [lenS] at hq);cbv)|(refine Nm fun _ _=>?_;cbv)|(refine Br.t ?_ ?_;(focus first|assumption|lia);cbv)|(refine Br.f ?_ ?_;(focus first|assumption|lia);cbv)|(refine Br.mk (fun _=>?_) (fun _=>?_)<;>cbv)|(refine Need.mk ?_ ?_;rotate_left;cbv)|(refine R0 ?_;cbv))
  all_goals first
   | exact⟨rfl,trivial⟩
   | (exfalso;simp only [true_iff,false_iff,Bool.false_eq_true,not_and] at hB;lia)
   | trace_state
def intW (x:Int):List PV:=[.int .i64 x]
theorem NumsE.eq:NumsE=List.map intW:=rfl
def inI (x:Int) (l:List Int):Bool:=decide (x∈l)
def idxI (x:Int) (l:List Int):Int:=if x∈l then(l.idxOf x:Nat) else -1
theorem idxI_at {v:Int} {l:List Int} {k:Nat} (hk:l[k]?=some v) (h:∀ (j:Nat) x,j<k→l[j]?=some x→v≠x):idxI v l=k:=by
 have hlt:=(List.getElem?_eq_some_iff.1 hk).1
 have he:=(List.getElem?_eq_some_iff.1 hk).2
 rw[idxI,if_pos (List.mem_of_getElem? hk)]
 refine congrArg _ ?_
 rw[List.idxOf,List.findIdx_eq hlt]
 refine⟨by rw[he];simp,fun j hj=>?_⟩
 have:=h j l[j] hj (by simp)
 simp only [beq_eq_false_iff_ne]
 exact fun e=>this e.symm
theorem idxI_no {v:Int} {l:List Int} (h:∀ (j:Nat) x,j<l.length→l[j]?=some x→v≠x):idxI v l=-1:=by
 rw[idxI,if_neg]
 intro hm
 obtain⟨j,hj,e⟩:=List.getElem_of_mem hm
 exact h j l[j] hj (by simp) e.symm
theorem idxI_ge (v:Int) (l:List Int):(0≤idxI v l ↔ inI v l=true):=by
 rw[idxI,inI]
 by_cases h:v∈l
 ·simp [h]
 ·simp [h]
theorem indexI_fn0 (O:Opq) (l:List Int) (v:Int) (hl:l.length≤1000000):Fn prog 32 [.sl true 0 false 1 (O.o NumsE l),.int .i64 v] [] [.int .i64 (O.o (idxI v) l)] []:=by
 have hlen:=NumsE.len O l
 obtain⟨z,hz⟩:∃ z:Nat,z=0:=⟨_,rfl⟩
 obtain⟨N,hN⟩:∃ N:Nat,N=l.length:=⟨_,rfl⟩
 refine go (fn:=Proofs.Tryz.f32) (n:=17) (rv:=[ResultVar.tmp 4]) rfl (by decide) rfl (by decide +kernel) rfl rfl (by simp) fun F L C=>?_
 cbv
 (repeat' first|(refine Na ?_ fun _ _=>?_;(focus lia);cbv)|(refine Nl fun _ _ hq=>?_;(try simp only [lenS] at hq);cbv)|(refine Nm fun _ _=>?_;cbv)|(refine Br.t ?_ ?_;(focus first|assumption|lia);cbv)|(refine Br.f ?_ ?_;(focus first|assumption|lia);cbv)|(refine Br.mk (fun _=>?_) (fun _=>?_)<;>cbv)|(refine Need.mk ?_ ?_;rotate_left;cbv)|(refine R0 ?_;cbv))
 refine LoopThen.mk (C.loopAt (ι:=Nat) [(4,5),(8,18)] (fun k=>[(4,.int .i64 0),(8,.int .i64 k)]) (fun _=>[])
  (fun k=>k≤l.length∧∀ (j:Nat) x,j<k→l[j]?=some x→v≠x) (fun k=>N-k) (by decide +kernel) (Start.mk z [] [] ⟨by omega,fun j x hj=>by omega⟩ (by cbv;(repeat' apply And.intro)<;>first|exact True.intro|exact WkR.refl _|rfl|lia)) ?_)
 intro k g
 cbv
 have g1:k≤l.length:=g.1
 have g2:=g.2
 clear g
 by_cases hk:k<l.length
 ·obtain⟨x,hx⟩:∃ x,l[k]?=some x:=⟨l[k],by simp [hk]⟩
  have hyes:v=x→O.o (idxI v) l=k:=fun e=>by rw[O.h];exact idxI_at (by rw[e];exact hx) g2
  have hst:v≠x→∀ (j:Nat) y,j<k+1→l[j]?=some y→v≠y:=fun h j y hj hy=>by
   by_cases ej:j=k
   ·subst ej;rw[hx] at hy;cases hy;exact h
   ·exact g2 j y (by omega) hy
  obtain⟨Q,eQ⟩:∃ Q,Q=O.o (idxI v) l:=⟨_,rfl⟩
  rw[← eQ] at hyes ⊢
  clear g2 eQ
  (repeat' first|(refine Na ?_ fun _ _=>?_;(focus lia);cbv)|(refine Ex.known O intW rfl hx ?_ ?_;(focus lia);cbv)|(refine Back.up [] [] ?_ ?_ fun _ _=>?_;rotate_left 2;cbv;refine And.intro ?_ ?_)|(refine Nl fun _ _ hq=>?_;(try simp only [lenS] at hq);cbv)|(refine Nm fun _ _=>?_;cbv)|(refine Br.t ?_ ?_;(focus first|assumption|lia);cbv)|(refine Br.f ?_ ?_;(focus first|assumption|lia);cbv)|(refine Br.mk (fun _=>?_) (fun _=>?_)<;>cbv)|(refine Need.mk ?_ ?_;rotate_left;cbv)|(refine R0 ?_;cbv))
  all_goals(repeat' apply And.intro)
  all_goals try first
   | exact True.intro
   | exact WkR.refl _
   | (clear hx hst hyes;lia)
  all_goals first
   | exact hst (by assumption)
   | (rw[hyes (by assumption)];clear hx hst hyes;lia)
   | trace_state
 ·have hno:O.o (idxI v) l=-1:=by rw[O.h];exact idxI_no fun j x hj hx=>g2 j x (by omega) hx
  rw[hno]
  clear g2
  (repeat' first|(refine Na ?_ fun _ _=>?_;(focus lia);cbv)|(refine Nl fun _ _ hq=>?_;(try simp only [lenS] at hq);cbv)|(refine Nm fun _ _=>?_;cbv)|(refine Br.t ?_ ?_;(focus first|assumption|lia);cbv)|(refine Br.f ?_ ?_;(focus first|assumption|lia);cbv)|(refine Br.mk (fun _=>?_) (fun _=>?_)<;>cbv)|(refine Need.mk ?_ ?_;rotate_left;cbv)|(refine R0 ?_;cbv))
  all_goals first
   | exact⟨rfl,trivial⟩
   | (exfalso;lia)
   | trace_state
theorem indexI_fn (O:Opq) (l:List Int) (v:Int) (hl:l.length≤1000000):Fn prog 32 [.sl false 0 false 1 (O.o NumsE l),.int .i64 v] [] [.int .i64 (O.o (idxI v) l)] []:=(indexI_fn0 O l v hl).wkA (.cons (.lend rfl) (.cons (.refl _) .nil))
theorem containsI_fn (O:Opq) (l:List Int) (v:Int) (hl:l.length≤1000000):Fn prog 25 [.sl false 0 false 1 (O.o NumsE l),.int .i64 v] [] [.bool (O.o (inI v) l)] []:=by
 have k:=indexI_fn O l v hl
 have hi:(0≤O.o (idxI v) l ↔ O.o (inI v) l=true):=by rw[O.h,O.h];exact idxI_ge v l
 obtain⟨Q,eQ⟩:∃ Q,Q=O.o (idxI v) l:=⟨_,rfl⟩
 rw[← eQ] at k hi
 obtain⟨B,eB⟩:∃ Q,Q=O.o (inI v) l:=⟨_,rfl⟩
 rw[← eB] at hi ⊢
 clear eQ eB
 cases B
 all_goals
  refine go (fn:=Proofs.Tryz.f25) (n:=7) (rv:=[ResultVar.tmp 4]) rfl (by decide) rfl (by decide +kernel) rfl rfl (by simp) fun F L C=>?_
  cbv
  (repeat' first|(refine Na ?_ fun _ _=>?_;(focus lia);cbv)|(refine CallThen.mk _ _ (C.fn (k)) ?_;cbv)|(refine Nl fun _ _ hq=>?_;(try simp only [lenS] at hq);cbv)|(refine Nm fun _ _=>?_;cbv)|(refine Br.t ?_ ?_;(focus first|assumption|lia);cbv)|(refine Br.f ?_ ?_;(focus first|assumption|lia);cbv)|(refine Br.mk (fun _=>?_) (fun _=>?_)<;>cbv)|(refine Need.mk ?_ ?_;rotate_left;cbv)|(refine R0 ?_;cbv))
  all_goals first
   | exact⟨rfl,trivial⟩
   | (exfalso;simp at hi;clear k;lia)
   | trace_state
theorem creads_fn (O:Opq) (id:Int) (s:ByteArray) (hs:s.size≤1000000000):Fn prog 27 [.int .i64 id,.str s] [] [.bool (O.o defD id s)] []:=by
 have hs2:s.data.toList.length≤1000000000:=by rw[size_list];exact hs
 have k:=eall_fn O s.data.toList (by omega)
 rw[show O.o ofL s.data.toList=s by rw[O.h];exact eq_of_toL (toL_ofL _),O.h allE] at k
 have hB:O.o defD id s=true ↔ (id=1∧s=ByteArray.empty)∨(id≠1∧allE s.data.toList=0):=by
  rw[O.h,defD_iff];exact defOk_iff
 obtain⟨E,hE⟩:∃ E,E=allE s.data.toList:=⟨_,rfl⟩
 obtain⟨V,hV⟩:∃ V,V=O.o Nds.enc (O.o allV s.data.toList):=⟨_,rfl⟩
 rw[← hE,← hV] at k
 rw[← hE] at hB
 obtain⟨B,eB⟩:∃ B,B=O.o defD id s:=⟨_,rfl⟩
 rw[← eB] at hB ⊢
 clear eB hE hV
 have he:s=ByteArray.empty∨¬ s=ByteArray.empty:=Classical.em _
 cases B
 all_goals
  refine go (fn:=Proofs.Tryz.f27) (n:=16) (rv:=[ResultVar.tmp 4]) rfl (by decide) rfl (by decide +kernel) rfl rfl (by simp) fun F L C=>?_
  cbv
  (repeat' first|(refine Na ?_ fun _ _=>?_;(focus lia);cbv)|(refine CallThen.mk _ _ (C.fn (k)) ?_;cbv)|(refine Nl fun _ _ hq=>?_;(try simp only [lenS] at hq);cbv)|(refine Nm fun _ _=>?_;cbv)|(refine Br.t ?_ ?_;(focus first|assumption|lia);cbv)|(refine Br.f ?_ ?_;(focus first|assumption|lia);cbv)|(refine Br.mk (fun _=>?_) (fun _=>?_)<;>cbv)|(refine Need.mk ?_ ?_;rotate_left;cbv)|(refine R0 ?_;cbv))
  all_goals first
   | exact⟨rfl,trivial⟩
   | (exfalso;simp only [true_iff,false_iff,Bool.false_eq_true] at hB;first|exact hB (.inl ⟨by assumption,by assumption⟩)|exact hB (.inr ⟨by assumption,by assumption⟩))
   | (exfalso;rcases(hB.1 rfl) with h|h;(exact absurd h.1 (by assumption));exact absurd h.2 (by assumption))
   | (exfalso;rcases(hB.1 rfl) with h|h;(exact absurd h.2 (by assumption));exact absurd (by assumption) h.1)
   | trace_state
theorem rdef_fn (O:Opq) (id:Int) (s:ByteArray) (hs:s.size≤1000000000):Fn prog 22 [.int .i64 id,.str s] [] [.bool (O.o defD id s)] []:=by
 have hs2:s.data.toList.length≤1000000000:=by rw[size_list];exact hs
 have k:=reall_fn O s.data.toList (by omega)
 rw[show O.o ofL s.data.toList=s by rw[O.h];exact eq_of_toL (toL_ofL _),O.h allE] at k
 have hB:O.o defD id s=true ↔ (id=1∧s=ByteArray.empty)∨(id≠1∧allE s.data.toList=0):=by
  rw[O.h,defD_iff];exact defOk_iff
 obtain⟨E,hE⟩:∃ E,E=allE s.data.toList:=⟨_,rfl⟩
 obtain⟨V,hV⟩:∃ V,V=O.o Nds.enc (O.o allV s.data.toList):=⟨_,rfl⟩
 rw[← hE,← hV] at k
 rw[← hE] at hB
 obtain⟨B,eB⟩:∃ B,B=O.o defD id s:=⟨_,rfl⟩
 rw[← eB] at hB ⊢
 clear eB hE hV
 have he:s=ByteArray.empty∨¬ s=ByteArray.empty:=Classical.em _
 cases B
 all_goals
  refine go (fn:=Proofs.Tryz.f22) (n:=16) (rv:=[ResultVar.tmp 4]) rfl (by decide) rfl (by decide +kernel) rfl rfl (by simp) fun F L C=>?_
  cbv
  (repeat' first|(refine Na ?_ fun _ _=>?_;(focus lia);cbv)|(refine CallThen.mk _ _ (C.fn (k)) ?_;cbv)|(refine Nl fun _ _ hq=>?_;(try simp only [lenS] at hq);cbv)|(refine Nm fun _ _=>?_;cbv)|(refine Br.t ?_ ?_;(focus first|assumption|lia);cbv)|(refine Br.f ?_ ?_;(focus first|assumption|lia);cbv)|(refine Br.mk (fun _=>?_) (fun _=>?_)<;>cbv)|(refine Need.mk ?_ ?_;rotate_left;cbv)|(refine R0 ?_;cbv))
  all_goals first
   | exact⟨rfl,trivial⟩
   | (exfalso;simp only [true_iff,false_iff,Bool.false_eq_true] at hB;first|exact hB (.inl ⟨by assumption,by assumption⟩)|exact hB (.inr ⟨by assumption,by assumption⟩))
   | (exfalso;rcases(hB.1 rfl) with h|h;(exact absurd h.1 (by assumption));exact absurd h.2 (by assumption))
   | (exfalso;rcases(hB.1 rfl) with h|h;(exact absurd h.2 (by assumption));exact absurd (by assumption) h.1)
   | trace_state
theorem inI_iff {v:Int} {l:List Int}:inI v l=true ↔ v∈l:=by simp [inI]
theorem rin_fn (O:Opq) (l:List Int) (v:Int) (hl:l.length≤1000000):Fn prog 23 [.sl false 0 false 1 (O.o NumsE l),.int .i64 v] [] [.bool (O.o (inI v) l)] []:=by
 have hlen:=NumsE.len O l
 have hB:O.o (inI v) l=true ↔ v∈l:=by rw[O.h];exact inI_iff
 obtain⟨B,eB⟩:∃ B,B=O.o (inI v) l:=⟨_,rfl⟩
 rw[← eB] at hB ⊢
 clear eB
 obtain⟨z,hz⟩:∃ z:Nat,z=0:=⟨_,rfl⟩
 obtain⟨N,hN⟩:∃ N:Nat,N=l.length:=⟨_,rfl⟩
 refine go (fn:=Proofs.Tryz.f23) (n:=16) (rv:=[ResultVar.tmp 4]) rfl (by decide) rfl (by decide +kernel) rfl rfl (by simp) fun F L C=>?_
 cbv
 (repeat' first|(refine Na ?_ fun _ _=>?_;(focus lia);cbv)|(refine Nl fun _ _ hq=>?_;(try simp only [lenS] at hq);cbv)|(refine Nm fun _ _=>?_;cbv)|(refine Br.t ?_ ?_;(focus first|assumption|lia);cbv)|(refine Br.f ?_ ?_;(focus first|assumption|lia);cbv)|(refine Br.mk (fun _=>?_) (fun _=>?_)<;>cbv)|(refine Need.mk ?_ ?_;rotate_left;cbv)|(refine R0 ?_;cbv))
 refine LoopThen.mk (C.loopAt (ι:=Nat) [(4,17)] (fun k=>[(5,.int .i64 k)]) (fun _=>[])
  (fun k=>k≤l.length∧∀ (j:Nat) x,j<k→l[j]?=some x→v≠x) (fun k=>N-k) (by decide +kernel) (Start.mk z [] [] ⟨by omega,fun j x hj=>by omega⟩ (by cbv;(repeat' apply And.intro)<;>first|exact True.intro|exact WkR.refl _|rfl|lia)) ?_)
 intro k g
 cbv
 have g1:k≤l.length:=g.1
 have g2:=g.2
 clear g
 by_cases hk:k<l.length
 ·obtain⟨x,hx⟩:∃ x,l[k]?=some x:=⟨l[k],by simp [hk]⟩
  have hyes:x=v→B=true:=fun e=>hB.2 (e ▸ List.mem_of_getElem? hx)
  have hst:x≠v→∀ (j:Nat) y,j<k+1→l[j]?=some y→v≠y:=fun h j y hj hy=>by
   by_cases ej:j=k
   ·subst ej;rw[hx] at hy;cases hy;exact fun e=>h e.symm
   ·exact g2 j y (by omega) hy
  clear g2 hB
  (repeat' first|(refine Na ?_ fun _ _=>?_;(focus lia);cbv)|(refine Ex.known O intW rfl hx ?_ ?_;(focus lia);cbv)|(refine Back.up [] [] ?_ ?_ fun _ _=>?_;rotate_left 2;cbv;refine And.intro ?_ ?_)|(refine Nl fun _ _ hq=>?_;(try simp only [lenS] at hq);cbv)|(refine Nm fun _ _=>?_;cbv)|(refine Br.t ?_ ?_;(focus first|assumption|lia);cbv)|(refine Br.f ?_ ?_;(focus first|assumption|lia);cbv)|(refine Br.mk (fun _=>?_) (fun _=>?_)<;>cbv)|(refine Need.mk ?_ ?_;rotate_left;cbv)|(refine R0 ?_;cbv))
  all_goals(repeat' apply And.intro)
  all_goals first
   | exact True.intro
   | exact WkR.refl _
   | (clear hx hst hyes;lia)
   | exact hst (by assumption)
   | exact hyes (by assumption)
   | exact(hyes (by assumption)).symm
   | trace_state
 ·have hno:B=false:=by
   cases B with
   | false=>rfl
   | true =>
    obtain⟨j,hj,e⟩:=List.getElem_of_mem (hB.1 rfl)
    exact absurd e.symm (g2 j _ (by omega) (by simp))
  clear g2 hB
  (repeat' first|(refine Na ?_ fun _ _=>?_;(focus lia);cbv)|(refine Nl fun _ _ hq=>?_;(try simp only [lenS] at hq);cbv)|(refine Nm fun _ _=>?_;cbv)|(refine Br.t ?_ ?_;(focus first|assumption|lia);cbv)|(refine Br.f ?_ ?_;(focus first|assumption|lia);cbv)|(refine Br.mk (fun _=>?_) (fun _=>?_)<;>cbv)|(refine Need.mk ?_ ?_;rotate_left;cbv)|(refine R0 ?_;cbv))
  all_goals first
   | exact⟨hno,trivial⟩
   | exact⟨hno.symm,trivial⟩
   | (exfalso;lia)
   | trace_state
theorem cnodes_fn (O:Opq) (l:List Int) (hl:l.length≤1000000):Fn prog 26 [.sl false 0 false 1 (O.o NumsE l)] [] [.bool (O.o nodesD l)] []:=by
 have hlen:=NumsE.len O l
 have hB:O.o nodesD l=true ↔ nodesOk l:=by rw[O.h];exact nodesD_iff
 obtain⟨B,eB⟩:∃ B,B=O.o nodesD l:=⟨_,rfl⟩
 rw[← eB] at hB ⊢
 clear eB
 obtain⟨z,hz⟩:∃ z:Nat,z=0:=⟨_,rfl⟩
 obtain⟨N,hN⟩:∃ N:Nat,N=l.length:=⟨_,rfl⟩
 refine go (fn:=Proofs.Tryz.f26) (n:=33) (rv:=[ResultVar.tmp 2]) rfl (by decide) rfl (by decide +kernel) rfl rfl (by simp) fun F L C=>?_
 cbv
 (repeat' first|(refine Na ?_ fun _ _=>?_;(focus lia);cbv)|(refine Nl fun _ _ hq=>?_;(try simp only [lenS] at hq);cbv)|(refine Nm fun _ _=>?_;cbv)|(refine Br.t ?_ ?_;(focus first|assumption|lia);cbv)|(refine Br.f ?_ ?_;(focus first|assumption|lia);cbv)|(refine Br.mk (fun _=>?_) (fun _=>?_)<;>cbv)|(refine Need.mk ?_ ?_;rotate_left;cbv)|(refine R0 ?_;cbv))
 refine LoopThen.mk (C.loopAt (ι:=Nat) [(2,4),(7,25)] (fun k=>[(7,.int .i64 k)]) (fun _=>[])
  (fun k=>k≤l.length∧nodesTo l k) (fun k=>N-k) (by decide +kernel) (Start.mk z [] [] ⟨by omega,hz ▸ nodesTo_zero l⟩ (by cbv;(repeat' apply And.intro)<;>first|exact True.intro|exact WkR.refl _|rfl|lia)) ?_)
 intro k g
 cbv
 have g1:k≤l.length:=g.1
 have g2:nodesTo l k:=g.2
 clear g
 by_cases hk:k<l.length
 ·obtain⟨x,hx⟩:∃ x,l[k]?=some x:=⟨l[k],by simp [hk]⟩
  have kc:=containsI_fn O (l.take k) x (by rw[List.length_take];omega)
  have hI:O.o (inI x) (l.take k)=true ↔ x∈l.take k:=by rw[O.h];exact inI_iff
  have hT:O.o NumsE (l.take k)=(O.o NumsE l).take k:=by rw[O.h,NumsE,NumsE,List.map_take]
  obtain⟨I,eI⟩:∃ B,B=O.o (inI x) (l.take k):=⟨_,rfl⟩
  obtain⟨T,eT⟩:∃ T,T=O.o NumsE (l.take k):=⟨_,rfl⟩
  rw[← eI] at kc hI
  rw[← eT] at kc hT
  have hno:¬ (1≤x∧x≤99)∨I=true→B=false:=fun h=>by
   have:=nodesOk_no hx (h.imp id hI.1)
   cases B with
   | false=>rfl
   | true=>exact absurd (hB.1 rfl) this
  have hst:(1≤x∧x≤99)→I=false→nodesTo l (k+1):=fun h1 h2=>nodesTo_step hx g2 h1 (fun h=>by rw[hI.2 h] at h2;cases h2)
  clear g2 hB hI eI eT
  cases I
  all_goals
   (repeat' first|(refine Named.at' T hT ?_;cbv)|(refine Na ?_ fun _ _=>?_;(focus lia);cbv)|(refine Ex.known O intW rfl hx ?_ ?_;(focus lia);cbv)|(refine CallThen.mk _ _ (C.fn (kc)) ?_;cbv)|(refine Back.up [] [] ?_ ?_ fun _ _=>?_;rotate_left 2;cbv;refine And.intro ?_ ?_)|(refine Nl fun _ _ hq=>?_;(try simp only [lenS] at hq);cbv)|(refine Nm fun _ _=>?_;cbv)|(refine Br.t ?_ ?_;(focus first|assumption|lia);cbv)|(refine Br.f ?_ ?_;(focus first|assumption|lia);cbv)|(refine Br.mk (fun _=>?_) (fun _=>?_)<;>cbv)|(refine Need.mk ?_ ?_;rotate_left;cbv)|(refine R0 ?_;cbv))
   all_goals(repeat' apply And.intro)
   all_goals first
    | exact True.intro
    | exact WkR.refl _
    | (clear hx hst hno kc hT;lia)
    | exact(hst ⟨by clear hx hst hno kc hT;lia,by clear hx hst hno kc hT;lia⟩ rfl).1
    | exact(hst ⟨by clear hx hst hno kc hT;lia,by clear hx hst hno kc hT;lia⟩ rfl).2
    | exact hno (.inr rfl)
    | exact(hno (.inr rfl)).symm
    | exact hno (.inl (fun h=>by clear hx hst hno kc hT;lia))
    | exact(hno (.inl (fun h=>by clear hx hst hno kc hT;lia))).symm
    | (exfalso;clear hx hst hno kc hT;lia)
    | trace_state
 ·rw[nodesOk_end g2 (by omega)] at hB
  clear g2
  cases B
  all_goals
   (repeat' first|(refine Na ?_ fun _ _=>?_;(focus lia);cbv)|(refine Nl fun _ _ hq=>?_;(try simp only [lenS] at hq);cbv)|(refine Nm fun _ _=>?_;cbv)|(refine Br.t ?_ ?_;(focus first|assumption|lia);cbv)|(refine Br.f ?_ ?_;(focus first|assumption|lia);cbv)|(refine Br.mk (fun _=>?_) (fun _=>?_)<;>cbv)|(refine Need.mk ?_ ?_;rotate_left;cbv)|(refine R0 ?_;cbv))
   all_goals first
    | exact⟨rfl,trivial⟩
    | (exfalso;simp only [true_iff,false_iff,Bool.false_eq_true] at hB;lia)
    | (exfalso;lia)
    | trace_state
theorem rnodes_fn (O:Opq) (l:List Int) (hl:l.length≤1000000):Fn prog 21 [.sl false 0 false 1 (O.o NumsE l)] [] [.bool (O.o nodesD l)] []:=by
 have hlen:=NumsE.len O l
 have hB:O.o nodesD l=true ↔ nodesOk l:=by rw[O.h];exact nodesD_iff
 obtain⟨B,eB⟩:∃ B,B=O.o nodesD l:=⟨_,rfl⟩
 rw[← eB] at hB ⊢
 clear eB
 obtain⟨z,hz⟩:∃ z:Nat,z=0:=⟨_,rfl⟩
 obtain⟨N,hN⟩:∃ N:Nat,N=l.length:=⟨_,rfl⟩
 refine go (fn:=Proofs.Tryz.f21) (n:=39) (rv:=[ResultVar.tmp 2]) rfl (by decide) rfl (by decide +kernel) rfl rfl (by simp) fun F L C=>?_
 cbv
 (repeat' first|(refine Na ?_ fun _ _=>?_;(focus lia);cbv)|(refine Nl fun _ _ hq=>?_;(try simp only [lenS] at hq);cbv)|(refine Nm fun _ _=>?_;cbv)|(refine Br.t ?_ ?_;(focus first|assumption|lia);cbv)|(refine Br.f ?_ ?_;(focus first|assumption|lia);cbv)|(refine Br.mk (fun _=>?_) (fun _=>?_)<;>cbv)|(refine Need.mk ?_ ?_;rotate_left;cbv)|(refine R0 ?_;cbv))
 refine LoopThen.mk (C.loopAt (ι:=Nat) [(2,31)] (fun k=>[(3,.int .i64 k)]) (fun _=>[])
  (fun k=>k≤l.length∧nodesTo l k) (fun k=>N-k) (by decide +kernel) (Start.mk z [] [] ⟨by omega,hz ▸ nodesTo_zero l⟩ (by cbv;(repeat' apply And.intro)<;>first|exact True.intro|exact WkR.refl _|rfl|lia)) ?_)
 intro k g
 cbv
 have g1:k≤l.length:=g.1
 have g2:nodesTo l k:=g.2
 clear g
 by_cases hk:k<l.length
 ·obtain⟨x,hx⟩:∃ x,l[k]?=some x:=⟨l[k],by simp [hk]⟩
  have kc:=rin_fn O (l.take k) x (by rw[List.length_take];omega)
  have hI:O.o (inI x) (l.take k)=true ↔ x∈l.take k:=by rw[O.h];exact inI_iff
  have hT:O.o NumsE (l.take k)=(O.o NumsE l).take k:=by rw[O.h,NumsE,NumsE,List.map_take]
  obtain⟨I,eI⟩:∃ B,B=O.o (inI x) (l.take k):=⟨_,rfl⟩
  obtain⟨T,eT⟩:∃ T,T=O.o NumsE (l.take k):=⟨_,rfl⟩
  rw[← eI] at kc hI
  rw[← eT] at kc hT
  have hno:¬ (1≤x∧x≤99)∨I=true→B=false:=fun h=>by
   have:=nodesOk_no hx (h.imp id hI.1)
   cases B with
   | false=>rfl
   | true=>exact absurd (hB.1 rfl) this
  have hst:(1≤x∧x≤99)→I=false→nodesTo l (k+1):=fun h1 h2=>nodesTo_step hx g2 h1 (fun h=>by rw[hI.2 h] at h2;cases h2)
  clear g2 hB hI eI eT
  cases I
  all_goals
   (repeat' first|(refine Named.at' T hT ?_;cbv)|(refine Na ?_ fun _ _=>?_;(focus lia);cbv)|(refine Ex.known O intW rfl hx ?_ ?_;(focus lia);cbv)|(refine CallThen.mk _ _ (C.fn (kc)) ?_;cbv)|(refine Back.up [] [] ?_ ?_ fun _ _=>?_;rotate_left 2;cbv;refine And.intro ?_ ?_)|(refine Nl fun _ _ hq=>?_;(try simp only [lenS] at hq);cbv)|(refine Nm fun _ _=>?_;cbv)|(refine Br.t ?_ ?_;(focus first|assumption|lia);cbv)|(refine Br.f ?_ ?_;(focus first|assumption|lia);cbv)|(refine Br.mk (fun _=>?_) (fun _=>?_)<;>cbv)|(refine Need.mk ?_ ?_;rotate_left;cbv)|(refine R0 ?_;cbv))
   all_goals(repeat' apply And.intro)
   all_goals first
    | exact True.intro
    | exact WkR.refl _
    | (clear hx hst hno kc hT;lia)
    | exact(hst ⟨by clear hx hst hno kc hT;lia,by clear hx hst hno kc hT;lia⟩ rfl).1
    | exact(hst ⟨by clear hx hst hno kc hT;lia,by clear hx hst hno kc hT;lia⟩ rfl).2
    | exact hno (.inr rfl)
    | exact(hno (.inr rfl)).symm
    | exact hno (.inl (fun h=>by clear hx hst hno kc hT;lia))
    | exact(hno (.inl (fun h=>by clear hx hst hno kc hT;lia))).symm
    | (exfalso;clear hx hst hno kc hT;lia)
    | trace_state
 ·rw[nodesOk_end g2 (by omega)] at hB
  clear g2
  cases B
  all_goals
   (repeat' first|(refine Na ?_ fun _ _=>?_;(focus lia);cbv)|(refine Nl fun _ _ hq=>?_;(try simp only [lenS] at hq);cbv)|(refine Nm fun _ _=>?_;cbv)|(refine Br.t ?_ ?_;(focus first|assumption|lia);cbv)|(refine Br.f ?_ ?_;(focus first|assumption|lia);cbv)|(refine Br.mk (fun _=>?_) (fun _=>?_)<;>cbv)|(refine Need.mk ?_ ?_;rotate_left;cbv)|(refine R0 ?_;cbv))
   all_goals first
    | exact⟨rfl,trivial⟩
    | (exfalso;simp only [true_iff,false_iff,Bool.false_eq_true] at hB;lia)
    | (exfalso;lia)
    | trace_state
end Go.Sym
