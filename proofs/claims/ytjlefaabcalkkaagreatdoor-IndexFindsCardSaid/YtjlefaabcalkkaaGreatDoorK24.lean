/- Expressions' texts, read back; the law's small question. -/
import Derived.Test.YtjlefaabcalkkaaGreatDoorK20
import Derived.Test.YtjlefaabcalkkaaGreatDoorK21
import Derived.Test.YtjlefaabcalkkaaGreatDoorK22
import Derived.Test.YtjlefaabcalkkaaGreatDoorK23
set_option linter.all false
set_option linter.unusedVariables false
set_option linter.unusedSimpArgs false
namespace Go.Sym
open Go Go.Proofs.Tryz
set_option maxRecDepth 100000
def Xp.str (e:Xp):List UInt8:=e.txt digN
theorem parse_made {s:List UInt8} (h:parseE s=0):∃ e:Xp,e.Ok lexE∧Der lexE.toLex 2 s e∧parseV s=e.nd∧deepB 8 e.nd=false∧s.length≤256:=by
 have h0:=h
 unfold parseE at h
 split at h
 ·cases h
 ·rename_i hl
  split at h
  ·cases h
  ·rename_i hp
   split at h
   ·cases h
   ·rename_i hd
    obtain⟨e,hder,he⟩:=parse0_nd (Classical.not_not.1 hp)
    have hder:Der lexE.toLex 2 s e:=hder
    exact⟨e,der_ok hder,hder,by rw[parseV,if_pos h0,he],by rw[← he];simpa using hd,by omega⟩
theorem made_chk {e:Xp} (h:e.Ok lexE) (hd:deepB 8 e.nd=false):chkE e.nd=0:=chkE_ok.2 ⟨hd,made_nd h⟩
theorem ok_small {e:Xp} (h:e.Ok lexE):NdS e.nd:=by
 induction h with
 | @path w h =>
  have h:leafL w=some (.path w):=h
  refine .mk (by simp) ?_ (by simp)
  unfold leafL at h
  split at h
  ·split at h<;>cases h
  ·split at h
   ·rename_i k
    simp only [pathL,Bool.and_eq_true,decide_eq_true_eq] at k
    omega
   ·cases h
 | num h=>exact .mk (by simp) (by simp) (by simp)
 | sum _ _ ih jh=>exact .mk (by simp) (by simp) (fun x hx=>by simp at hx;rcases hx with rfl|rfl<;>assumption)
 | mul _ _ ih jh=>exact .mk (by simp) (by simp) (fun x hx=>by simp at hx;rcases hx with rfl|rfl<;>assumption)
 | @call w a h _ ih =>
  have h:nameL w=true:=h
  refine .mk (by simp) ?_ (fun x hx=>by simp at hx;subst hx;assumption)
  rcases name_cases h with rfl|rfl|rfl|rfl|rfl<;>decide
theorem Vals.en_len (O:Opq) (l:List Val):(O.o Vals.enc l).length=l.length:=by rw[O.h,Vals.enc_len]
theorem Ex.val (O:Opq) {l:List Val} {k:Nat} {x:Val} (hx:l[k]?=some x) {i:Int} {K:List PV→Prop} (hi:i=k) (h:K x.enc):Ex (List PV) (fun row=>0≤i∧(O.o Vals.enc l)[i.toNat]?=some row) K :=
 .mk x.enc ⟨by omega,by rw[O.h,hi,Int.toNat_natCast,Vals.enc,List.getElem?_map,hx];rfl⟩ h
theorem two_en (O:Opq) (f:Nd→Nd→Nd) (k:Int) (hf:∀ a b,f a b=.mk k [] 0 [a,b]) (x y:Nd):(f x y).en O=[.int .i64 k,.str ByteArray.empty,.int .i64 0,.sl false 0 false 4 [x.en O,y.en O]]:=by
 rw[hf,← Nds.two O x y,show ByteArray.empty=O.o ofL [] by rw[O.h];rfl];rfl
theorem call_en (O:Opq) (w:List UInt8) (x:Nd):(callN w x).en O=[.int .i64 5,.str (O.o ofL w),.int .i64 0,.sl false 0 false 4 [x.en O]]:=by
 rw[← Nds.one O x];rfl
theorem zero_en (O:Opq):zeroN.en O=[.int .i64 0,.str ByteArray.empty,.int .i64 0,.sl false 0 false 4 []]:=by
 rw[zeroN_en,show O.o ofL []=ByteArray.empty by rw[O.h];rfl,Nds.nil O]
theorem rreadX_fn (O:Opq):∀ (n:Nat),n≤300→∀ (s:List UInt8),s.length≤256→∀ v:Int,v=n →
  Fn prog 90 [.str (O.o ofL s),.int .i64 v] [] [.agg ((readN n s).1.en O),.bool (readN n s).2] []
 | 0,_,s,_,v,hv=>by
  have:=readZ (S:=O.o ofL s) (v:=v) (.inr hv)
  rw[← zero_en O] at this
  exact this
 | n+1,hn,s,hs,v,hv=>by
  have hS0:O.o ofL s=ByteArray.empty ↔ s=[]:=by rw[O.h];exact ofL_emp
  have hsz:(O.o ofL s).size=s.length:=by rw[O.h,size_ofL]
  by_cases h0:s=[]
  ·have:=readZ (S:=O.o ofL s) (v:=v) (.inl (hS0.2 h0))
   rw[← zero_en O] at this
   rw[readN,if_pos h0]
   exact this
  have hS:¬ O.o ofL s=ByteArray.empty:=fun e=>h0 (hS0.1 e)
  have hv1:1≤v∧v≤300:=by omega
  have hw:((n:Nat):Int)=IntKind.i64.wrap (v-1):=by rw[wrap64 (by omega)];omega
  have k43:=rlastX_fn O s 43 43 rfl (by decide) (by omega)
  have k42:=rlastX_fn O s 42 42 rfl (by decide) (by omega)
  rw[O.h (lastI 43 s)] at k43
  rw[O.h (lastI 42 s)] at k42
  have ih:=fun t ht=>rreadX_fn O n (by omega) t ht n rfl
  rw[readN,if_neg h0]
  cases h43:lastN 43 s with
  | some i =>
   obtain⟨q1,q2⟩:=lastI_some (by decide) h43
   rw[q1] at k43
   have ka:=ih (s.take i) (by rw[List.length_take];omega)
   have kb:=ih (s.drop (i+1)) (by rw[List.length_drop];omega)
   have:=readS hS hv1 (i:=i) ⟨by omega,by rw[hsz];omega⟩ (by omega) hw (by simp only [O.h];rw[Int.toNat_natCast];exact cut_head s i) (by simp only [O.h];rw[show((i:Int)+1).toNat=i+1 by omega];exact cut_tail s (i+1)) k43 k42 ka kb
   rw[two_en O sumN 3 (fun _ _=>rfl)]
   exact this
  | none =>
   rw[lastI_none h43] at k43
   cases h42:lastN 42 s with
   | some i =>
    obtain⟨q1,q2⟩:=lastI_some (by decide) h42
    rw[q1] at k42
    have ka:=ih (s.take i) (by rw[List.length_take];omega)
    have kb:=ih (s.drop (i+1)) (by rw[List.length_drop];omega)
    have:=readM hS hv1 (i:=i) (m:=0) ⟨by omega,by rw[hsz];omega⟩ (by omega) hw (by simp only [O.h];rw[Int.toNat_natCast];exact cut_head s i) (by simp only [O.h];rw[show((i:Int)+1).toNat=i+1 by omega];exact cut_tail s (i+1)) k43 k42 ka kb
    simp only
    rw[two_en O mulN 4 (fun _ _=>rfl)]
    exact this
   | none =>
    rw[lastI_none h42] at k42
    simp only
    have kw:=rwhole_fn O s (by omega)
    by_cases hw2:wholeB s
    ·rw[if_pos hw2]
     rw[show O.o wholeD s=true by rw[O.h];exact wholeD_yes hw2] at kw
     have ka:=ih s.tail.dropLast (by rw[List.length_dropLast,List.length_tail];omega)
     exact readW hS hv1 (by rw[hsz];exact hw2.2.1) (by omega) hw (by simp only [O.h];exact cut_in s) k43 k42 kw ka
    rw[if_neg hw2]
    rw[show O.o wholeD s=false by rw[O.h];exact wholeD_not hw2] at kw
    by_cases h40:40∈s
    ·rw[if_pos h40]
     obtain⟨p1,p2⟩:=head_at h40
     obtain⟨p,hp⟩:∃ p,p=(headP s).length:=⟨_,rfl⟩
     have kn:=rname_fn O (headP s)
     have hdl:(tailP s).length≤s.length:=(List.dropWhile_sublist _).length_le
     have kd:=rwhole_fn O (tailP s) (by omega)
     have hb:∀ i:Nat,byteAt (O.o ofL s) i=((s.getD i 0).toNat:Int):=fun i=>by rw[O.h,byteAt_ofL]
     have ka:=ih (tailP s).tail.dropLast (by rw[List.length_dropLast,List.length_tail];omega)
     have hH:O.o ofL (headP s)=(O.o ofL s).extract 0 p:=by simp only [O.h];rw[head_take s,← hp];exact cut_head s p
     have hD:O.o ofL (tailP s)=(O.o ofL s).extract p (O.o ofL s).size:=by simp only [O.h];rw[tail_drop s,← hp];exact cut_tail s p
     have hA:O.o ofL (tailP s).tail.dropLast=(O.o ofL s).extract (p+1) ((O.o ofL s).size-1):=by simp only [O.h];rw[tail_drop s,← hp];exact cut_mid s p
     have hnp:∀ j:Nat,j<p→¬ byteAt (O.o ofL s) j=40:=fun j hj=>by rw[hb];exact head_no (by omega)
     have hpp:byteAt (O.o ofL s) p=40:=by rw[hb,hp];exact p2
     have hps:p<(O.o ofL s).size:=by rw[hsz,hp];exact p1
     cases hnm:nameL (headP s) with
     | false =>
      rw[show O.o nameL (headP s)=false by rw[O.h];exact hnm] at kn
      rw[if_neg (by simp)]
      have:=readC1 (qt:=O.o wholeD (tailP s)) hS hv1 (by omega) hw hps hnp hpp hH hD hA (by simp) k43 k42 kw kn kd ka
      rw[← zero_en O] at this
      exact this
     | true =>
      rw[show O.o nameL (headP s)=true by rw[O.h];exact hnm] at kn
      by_cases ht:wholeB (tailP s)
      ·rw[if_pos ⟨rfl,ht⟩]
       rw[show O.o wholeD (tailP s)=true by rw[O.h];exact wholeD_yes ht] at kd
       have htl:=ht.2.1
       have htl2:(tailP s).length=s.length-p:=by rw[tail_drop s,← hp,List.length_drop]
       have:=readC3 hS hv1 (by omega) hw hps hnp hpp hH hD hA (fun _=>by omega) k43 k42 kw kn kd ka
       rw[call_en O]
       exact this
      ·rw[if_neg (fun k=>ht k.2)]
       rw[show O.o wholeD (tailP s)=false by rw[O.h];exact wholeD_not ht] at kd
       have:=readC2 hS hv1 (by omega) hw hps hnp hpp hH hD hA (by simp) k43 k42 kw kn kd ka
       rw[← zero_en O] at this
       exact this
    ·rw[if_neg h40]
     have kp:=rplain_fn O s (by omega)
     have kt:=rpath_fn O (O.o ofL s) (by omega)
     rw[show O.o isPath (O.o ofL s)=pathL s by simp only [O.h];exact isPath_L s] at kt
     have e16:valI s (min s.length 16)=(natOf (s.take 16):Nat):=by
      rw[valI]
      by_cases h:s.length≤16
      ·rw[Nat.min_eq_left h,List.take_length,List.take_of_length_le h]
      ·rw[Nat.min_eq_right (by omega)]
     cases hpl:plainL s with
     | false =>
      rw[show O.o plainL s=false by rw[O.h];exact hpl] at kp
      rw[leafR,if_neg (by simp [hpl])]
      have:=readP (V:=0) (DS:=ByteArray.empty) rfl hS hv1 hs h40 k43 k42 kw kp kt (fun h=>nomatch h) (fun h=>nomatch h)
      rw[← Nds.nil O] at this
      exact this
     | true =>
      rw[show O.o plainL s=true by rw[O.h];exact hpl] at kp
      rw[leafR,if_pos hpl]
      have hlt:=valI_lt hpl (min s.length 16) (by omega)
      rw[e16] at hlt
      have kg:=rdigits_fn O (natOf (s.take 16)) (by omega) (natOf (s.take 16)) rfl
      have:=readD rfl hS hv1 hs h40 k43 k42 kw kp kt (fun _=>by rw[O.h];exact e16.symm) (fun _=>kg) (q:=decide (s.length≤15∧digN (natOf (s.take 16))=s)) hpl (by simp only [O.h];rw[decide_eq_true_eq,ofL_inj])
      rw[← Nds.nil O,show ByteArray.empty=O.o ofL [] by rw[O.h];rfl] at this
      exact this
set_option maxHeartbeats 1000000 in
theorem rparse_fn (O:Opq) (s:List UInt8) (hl:s.length≤4611686018427387904):Fn prog 61 [.str (O.o ofL s)] [] [.agg ((O.o parseV s).en O),.int .i64 (O.o parseE s)] []:=by
 have e0:O.o ofL []=ByteArray.empty:=by rw[O.h];rfl
 have e1:O.o Nds.enc []=[]:=Nds.nil O
 have hsz:(O.o ofL s).size=s.length:=by rw[O.h,size_ofL]
 obtain⟨L,hL⟩:∃ L:Nat,L=s.length:=⟨_,rfl⟩
 rw[← hL] at hsz
 have hzero:∀ {e:Int},e≠0→parseE s=e→O.o parseE s=e∧(O.o parseV s).en O=zeroN.en O:=fun {e} h0 h=>by
  rw[O.h,O.h];exact⟨h,by rw[parseV,if_neg (by rw[h];exact h0)]⟩
 by_cases h256:256<s.length
 ·obtain⟨q1,q2⟩:=hzero (e:=3) (by decide) (by rw[parseE,if_pos h256])
  rw[q1,q2,zero_en]
  obtain⟨S,hS⟩:∃ S,S=O.o ofL s:=⟨_,rfl⟩
  rw[← hS] at hsz ⊢
  clear hzero q1 q2
  refine go (fn:=Proofs.Tryz.f61) (n:=22) (rv:=[ResultVar.cell 2 103,ResultVar.tmp 3]) rfl (by decide) rfl (by decide +kernel) rfl rfl (by simp) fun F L C=>?_
  cbv
  (repeat' first|(refine Nm fun _ _=>?_;cbv)|(refine Br.t ?_ ?_;(focus first|assumption|lia);cbv)|(refine R0 ?_;cbv))
  all_goals first
   | exact⟨rfl,rfl,trivial⟩
   | exact⟨rfl,trivial⟩
   | (exfalso;lia)
   | trace_state
 have ks:=rreadX_fn O 300 (by decide) s (by omega) 300 rfl
 obtain⟨r1,r2⟩:=read_parse (s:=s) (by omega)
 have hE:parseE s=if ¬ (parse0 s).2=([],false) then 5 else if deepB 8 (parse0 s).1=true then 13 else 0:=by
  rw[parseE,if_neg h256]
 obtain⟨S,hS⟩:∃ S,S=O.o ofL s:=⟨_,rfl⟩
 rw[← hS] at hsz ks ⊢
 have hL2:L≤256:=by omega
 cases hb:(readN 300 s).2 with
 | true =>
  rw[hb] at ks
  have hx:=r2 hb
  rw[hx] at ks
  have hp2:=r1.1 hb
  rw[if_neg (by rw[hp2];simp)] at hE
  obtain⟨e,_,he⟩:=parse0_nd (s:=s) hp2
  have hB:NdB 100000 (parse0 s).1:=by rw[he];exact(NdB.nd e).mono (by decide)
  have kd:=rdepthX_fn O 9 (by decide) _ hB 9 rfl
  have hd8:=deep_I (parse0 s).1
  have hd9:1≤depthI 9 (parse0 s).1∧depthI 9 (parse0 s).1≤10:=by have:=depthN_le 9 (parse0 s).1;rw[depthI];omega
  rw[O.h (depthI 9)] at kd
  obtain⟨D,hD⟩:∃ D,D=depthI 9 (parse0 s).1:=⟨_,rfl⟩
  rw[← hD] at kd hd8 hd9
  cases hd:deepB 8 (parse0 s).1 with
  | true =>
   rw[hd,if_pos rfl] at hE
   obtain⟨q1,q2⟩:=hzero (by decide) hE
   rw[q1,q2,zero_en]
   have hD8:8<D:=hd8.1 hd
   obtain⟨x,hx⟩:∃ x,x=(parse0 s).1:=⟨_,rfl⟩
   rw[← hx] at ks kd
   clear hzero q1 q2 hE he hB hd hd8 r1 r2 hb hp2 hx hD
   obtain⟨k,t,n,l⟩:=x
   refine go (fn:=Proofs.Tryz.f61) (n:=22) (rv:=[ResultVar.cell 2 103,ResultVar.tmp 3]) rfl (by decide) rfl (by decide +kernel) rfl rfl (by simp) fun F L C=>?_
   cbv
   (repeat' first|(refine CallThen.mk _ _ (C.fn (ks)) ?_;cbv)|(refine CallThen.mk _ _ (C.fn (kd)) ?_;cbv)|(refine Nm fun _ _=>?_;cbv)|(refine Br.t ?_ ?_;(focus first|assumption|lia);cbv)|(refine Br.f ?_ ?_;(focus first|assumption|lia);cbv)|(refine R0 ?_;cbv))
   all_goals first
    | exact⟨rfl,rfl,trivial⟩
    | exact⟨rfl,trivial⟩
    | (exfalso;clear ks kd;lia)
    | trace_state
  | false =>
   rw[hd,if_neg (by simp)] at hE
   have q1:O.o parseE s=0:=by rw[O.h];exact hE
   have q2:(O.o parseV s).en O=(parse0 s).1.en O:=by rw[O.h parseV,parseV,if_pos hE]
   rw[q1,q2]
   have hD8:D≤8:=by
    have:¬ 8<D:=fun h=>by rw[hd8.2 h] at hd;cases hd
    omega
   obtain⟨x,hx⟩:∃ x,x=(parse0 s).1:=⟨_,rfl⟩
   rw[← hx] at ks kd ⊢
   clear hzero q1 q2 hE he hB hd hd8 r1 r2 hb hp2 hx hD
   obtain⟨k,t,n,l⟩:=x
   refine go (fn:=Proofs.Tryz.f61) (n:=22) (rv:=[ResultVar.cell 2 103,ResultVar.tmp 3]) rfl (by decide) rfl (by decide +kernel) rfl rfl (by simp) fun F L C=>?_
   cbv
   (repeat' first|(refine CallThen.mk _ _ (C.fn (ks)) ?_;cbv)|(refine CallThen.mk _ _ (C.fn (kd)) ?_;cbv)|(refine Nm fun _ _=>?_;cbv)|(refine Br.f ?_ ?_;(focus first|assumption|lia);cbv)|(refine R0 ?_;cbv))
   all_goals first
    | exact⟨.refl _,trivial⟩
    | (exfalso;clear ks kd;lia)
    | trace_state
 | false =>
  rw[hb] at ks
  have hp2:¬ (parse0 s).2=([],false):=fun h=>by have:=r1.2 h;rw[hb] at this;cases this
  rw[if_pos hp2] at hE
  obtain⟨q1,q2⟩:=hzero (by decide) hE
  rw[q1,q2,zero_en]
  obtain⟨x,hx⟩:∃ x,x=(readN 300 s).1:=⟨_,rfl⟩
  rw[← hx] at ks
  clear hzero q1 q2 hE r1 r2 hb hp2 hx
  obtain⟨k,t,n,l⟩:=x
  refine go (fn:=Proofs.Tryz.f61) (n:=22) (rv:=[ResultVar.cell 2 103,ResultVar.tmp 3]) rfl (by decide) rfl (by decide +kernel) rfl rfl (by simp) fun F L C=>?_
  cbv
  (repeat' first|(refine CallThen.mk _ _ (C.fn (ks)) ?_;cbv)|(refine Nm fun _ _=>?_;cbv)|(refine Br.f ?_ ?_;(focus first|assumption|lia);cbv)|(refine R0 ?_;cbv))
  all_goals first
   | exact⟨rfl,rfl,trivial⟩
   | exact⟨rfl,trivial⟩
   | (exfalso;clear ks;lia)
   | trace_state
def StrL (D:List (List UInt8)):List (List PV):=Strs (D.map ofL)
theorem StrL_snoc (O:Opq) (D:List (List UInt8)) (p:List UInt8):O.o StrL (D++[p])=O.o StrL D++[[.str (O.o ofL p)]]:=by
 have:=Strs_snoc O D p
 rw[O.h StrL]
 rw[O.h Strs] at this
 exact this
theorem room1 {n m:Nat} {x:List PV} (h:n≤1000000001) (hm:m≤16):(n+[x].length) * m≤2 ^ 44∧n+[x].length≤2 ^ 60:=by
 have:(n+[x].length) * m≤(1000000001+1) * 16:=Nat.mul_le_mul (by simp;omega) hm
 exact⟨Nat.le_trans this (by decide),by simp;omega⟩
set_option maxHeartbeats 2000000 in
theorem reall_fn (O:Opq) (s:List UInt8) (hl:s.length≤1000000000):Fn prog 36 [.str (O.o ofL s)] [] [.sl false 0 false 4 (O.o Nds.enc (O.o allV s)),.int .i64 (O.o allE s)] []:=by
 have e1:O.o Nds.enc []=[]:=Nds.nil O
 have hsz:(O.o ofL s).size=s.length:=by rw[O.h,size_ofL]
 have hb:∀ i:Nat,byteAt (O.o ofL s) i=((s.getD i 0).toNat:Int):=fun i=>by rw[O.h,byteAt_ofL]
 have hcut:∀ a b:Nat,O.o ofL ((s.take b).drop a)=(O.o ofL s).extract a b:=fun a b=>by simp only [O.h];exact cut_range s a b
 have hnil:∀ {e:Int},e≠0→allE s=e→O.o allE s=e∧O.o Nds.enc (O.o allV s)=[]:=fun {e} h0 h=>by
  rw[O.h allE,O.h allV]
  exact⟨h,by rw[allV,if_neg (by rw[h];exact h0)];exact e1⟩
 obtain⟨S,hS⟩:∃ S,S=O.o ofL s:=⟨_,rfl⟩
 rw[← hS] at hsz hb hcut ⊢
 obtain⟨R,hR⟩:∃ R,R=O.o Nds.enc (O.o allV s):=⟨_,rfl⟩
 obtain⟨E,hE⟩:∃ E,E=O.o allE s:=⟨_,rfl⟩
 rw[← hR,← hE] at hnil ⊢
 obtain⟨z,hz⟩:∃ z:Nat,z=0:=⟨_,rfl⟩
 obtain⟨Z,hZ⟩:∃ z:List (List UInt8),z=[]:=⟨_,rfl⟩
 have hZ0:O.o StrL Z=[]:=by rw[O.h,hZ];rfl
 have hSl:∀ D:List (List UInt8),(O.o StrL D).length=D.length:=fun D=>by rw[O.h,StrL,Strs_len,List.length_map]
 obtain⟨N,hN⟩:∃ N:Nat,N=s.length+1:=⟨_,rfl⟩
 clear hS
 refine go (fn:=Proofs.Tryz.f36) (n:=62) (rv:=[ResultVar.tmp 2,ResultVar.tmp 3]) rfl (by decide) rfl (by decide +kernel) rfl rfl (by simp) fun F L C=>?_
 cbv
 skip
 refine LoopThen.mk (C.loopAt (ι:=Nat×Nat×List (List UInt8)) [(4,6),(12,36)] (fun x=>[(4,.ref 50),(5,.int .i64 x.2.1),(6,.int .i64 x.1),(11,.top)]) (fun x=>[(50,.arr 0 none 1 (O.o StrL x.2.2))])
  (fun x=>CutAt s x.1 x.2.1 x.2.2) (fun x=>N-x.1) (by decide +kernel) (Start.mk (z,z,Z) [(50,.loc 832)] [] (by subst hz;subst hZ;exact CutAt.start s) ?_) ?_)
 ·cbv
  (repeat' apply And.intro)<;>first|exact True.intro|exact WkR.refl _|rfl|exact .of_eq hZ0|(clear hb hcut hSl;lia)|trace_state
 rintro ⟨i,st,D⟩ g
 cbv
 have g1:CutAt s i st D:=g
 clear g hZ0
 obtain⟨c1,c2⟩:=g1.le
 have c3:=g1.count
 have hDl:=hSl D
 have hal:(O.o StrL D).length≤1000000001:=by omega
 by_cases hi:i<s.length
 ·have hv:=hb i
  have h44:=u8_int (c:=s.getD i 0) (k:=44) (by decide)
  by_cases hc:s.getD i 0=44
  ·have hv2:byteAt S i=44:=by rw[hv];exact h44.2 hc
   have g2:=g1.comma hi hc
   have hx:=hcut st i
   have hsn:=StrL_snoc O D ((s.take i).drop st)
   obtain⟨x,hxx⟩:∃ x,x=(s.take i).drop st:=⟨_,rfl⟩
   rw[← hxx] at hx hsn g2
   obtain⟨D1,hD1⟩:∃ D1,D1=D++[x]:=⟨_,rfl⟩
   rw[← hD1] at hsn g2
   obtain⟨X,hX⟩:∃ X,X=O.o ofL x:=⟨_,rfl⟩
   rw[← hX] at hx hsn
   clear hb hcut hSl hv h44 hc g1 hxx hX hD1
   (repeat' first|(refine Named.at' X hx ?_;cbv)|(refine Na ?_ fun _ _=>?_;(focus lia);cbv)|(refine Back.to (i+1,i+1,D1) [(50,.loc 2304)] [] ?_ fun _ _=>?_;rotate_left;cbv)|(refine Nl fun _ _ hq=>?_;(try simp only [lenS] at hq);cbv)|(refine Nm fun _ _=>?_;cbv)|(refine Br.t ?_ ?_;(focus first|assumption|lia);cbv)|(refine Br.f ?_ ?_;(focus first|assumption|lia);cbv)|(refine Need.mk ?_ ?_;rotate_left;cbv))
   all_goals first
    | exact room1 hal (by decide)
    | exact⟨g2,by show N-(i+1)<N-i;omega⟩
    | (rename_i R eR q eq y ey;subst ey;refine⟨.of_eq (hsn.trans eR.symm),?_,?_,trivial⟩<;>clear hx hsn g2<;>lia)
    | (rename_i R eR i1 e1 i2 e2 y ey;subst ey;refine⟨.of_eq (hsn.trans eR.symm),?_,?_,trivial⟩<;>clear hx hsn g2<;>lia)
    | (clear hx hsn g2;lia)
    | trace_state
  ·have hv2:¬ byteAt S i=44:=by rw[hv];exact fun e=>hc (h44.1 e)
   have g2:=g1.go hi hc
   clear hb hcut hSl hv h44 hc g1
   (repeat' first|(refine Na ?_ fun _ _=>?_;(focus lia);cbv)|(refine Back.to (i+1,st,D) [] [] ?_ fun _ _=>?_;rotate_left;cbv)|(refine Nm fun _ _=>?_;cbv)|(refine Br.t ?_ ?_;(focus first|assumption|lia);cbv)|(refine Br.f ?_ ?_;(focus first|assumption|lia);cbv)|(refine Need.mk ?_ ?_;rotate_left;cbv))
   all_goals first
    | exact⟨g2,by show N-(i+1)<N-i;omega⟩
    | (rename_i y ey;subst ey;refine⟨.refl _,rfl,?_,trivial⟩;clear g2;lia)
    | (clear g2;lia)
    | (exfalso;clear g2;lia)
    | trace_state
 ·by_cases hi2:i=s.length
  ·have g2:=g1.last hi2
   have hx:=hcut st i
   have hsn:=StrL_snoc O D ((s.take i).drop st)
   obtain⟨x,hxx⟩:∃ x,x=(s.take i).drop st:=⟨_,rfl⟩
   rw[← hxx] at hx hsn g2
   obtain⟨D1,hD1⟩:∃ D1,D1=D++[x]:=⟨_,rfl⟩
   rw[← hD1] at hsn g2
   obtain⟨X,hX⟩:∃ X,X=O.o ofL x:=⟨_,rfl⟩
   rw[← hX] at hx hsn
   clear hb hcut hSl g1 hxx hX hD1
   (repeat' first|(refine Named.at' X hx ?_;cbv)|(refine Na ?_ fun _ _=>?_;(focus lia);cbv)|(refine Back.to (i+1,i+1,D1) [(50,.loc 2304)] [] ?_ fun _ _=>?_;rotate_left;cbv)|(refine Nl fun _ _ hq=>?_;(try simp only [lenS] at hq);cbv)|(refine Nm fun _ _=>?_;cbv)|(refine Br.t ?_ ?_;(focus first|assumption|lia);cbv)|(refine Need.mk ?_ ?_;rotate_left;cbv))
   all_goals first
    | exact room1 hal (by decide)
    | exact⟨g2,by show N-(i+1)<N-i;omega⟩
    | (rename_i R eR q eq y ey;subst ey;refine⟨.of_eq (hsn.trans eR.symm),?_,?_,trivial⟩<;>clear hx hsn g2<;>lia)
    | (rename_i R eR i1 e1 i2 e2 y ey;subst ey;refine⟨.of_eq (hsn.trans eR.symm),?_,?_,trivial⟩<;>clear hx hsn g2<;>lia)
    | (clear hx hsn g2;lia)
    | trace_state
  ·have hD:=g1.done (by omega)
   have hD0:0<D.length:=by rw[hD,split_count];omega
   clear hb hcut hSl g1
   by_cases h4:4<D.length
   ·obtain⟨q1,q2⟩:=hnil (e:=5) (by decide) (by rw[allE,if_pos (by rw[← hD];exact h4)])
    clear hnil hD
    (repeat' first|(refine Nm fun _ _=>?_;cbv)|(refine Br.t ?_ ?_;(focus first|assumption|lia);cbv)|(refine Br.f ?_ ?_;(focus first|assumption|lia);cbv)|(refine R0 ?_;cbv))
    all_goals first
     | exact⟨q2,q1,trivial⟩
     | (exfalso;lia)
     | trace_state
   have hAE:allE s=firstE D:=by rw[allE,if_neg (by rw[← hD];exact h4),← hD]
   have hz1:O.o Nds.enc (O.o (accV s) z)=[]:=by rw[O.h (accV s),hz];exact e1
   obtain⟨M,hM⟩:∃ M:Nat,M=D.length:=⟨_,rfl⟩
   (repeat' first|(refine Nm fun _ _=>?_;cbv)|(refine Br.f ?_ ?_;(focus first|assumption|lia);cbv))
   all_goals try(exfalso;clear hz1;lia)
   refine LoopThen.mk (C.loopAt (ι:=Nat) [(2,3),(7,10),(41,61)] (fun j=>[(7,.ref 51),(8,.int .i64 j),(9,.top),(40,.top)]) (fun j=>[(50,.arr 0 none 1 (O.o StrL D)),(51,.arr 0 none 4 (O.o Nds.enc (O.o (accV s) j)))])
    (fun j=>j≤M∧∀ (k:Nat) q,k<j→D[k]?=some q→parseE q=0) (fun j=>M-j) (by decide +kernel) (Start.mk z [(51,.loc 2688)] [] ⟨by omega,fun j q hj=>by omega⟩ ?_) ?_)
   ·cbv
    (repeat' apply And.intro)<;>first|exact True.intro|exact WkR.refl _|rfl|exact .of_eq hz1|exact hz1|(clear hz1;lia)|trace_state
   intro j g
   cbv
   have g1:j≤M:=g.1
   have g2:=g.2
   clear g hz1
   by_cases hj:j<D.length
   ·obtain⟨p,hp⟩:∃ p,D[j]?=some p:=⟨D[j],by simp [hj]⟩
    have hpm:(D.map ofL)[j]?=some (O.o ofL p):=by rw[List.getElem?_map,hp,O.h];rfl
    have hpl:p.length≤s.length:=piece_len (by rw[← hD];exact List.mem_of_getElem? hp)
    have kp:=rparse_fn O p (by omega)
    have hrow:∀ m:Nat,m=j→0≤Int.ofNat m∧(O.o StrL D)[(Int.ofNat m).toNat]?=some [.str (O.o ofL p)]:=fun m e=>by subst e;exact⟨Int.natCast_nonneg _,by rw[O.h,StrL,Strs_eq,List.getElem?_map,show(Int.ofNat m).toNat=m from rfl,hpm];rfl⟩
    by_cases he:parseE p=0
    ·rw[show O.o parseE p=0 by rw[O.h];exact he] at kp
     have hst:∀ (k:Nat) q,k<j+1→D[k]?=some q→parseE q=0:=fun k q hk hq=>by
      by_cases ej:k=j
      ·subst ej;rw[hp] at hq;cases hq;exact he
      ·exact g2 k q (by omega) hq
     have hsn:=accV_snoc O (s:=s) (i:=j) (by rw[← hD];exact hp)
     rw[show accV s (j+1)=O.o (accV s) (j+1) by rw[O.h],show accV s j=O.o (accV s) j by rw[O.h]] at hsn
     have hacl:(O.o Nds.enc (O.o (accV s) j)).length≤4:=by
      rw[Nds.en_len,O.h,accV,List.length_map,List.length_take];omega
     obtain⟨x,hx⟩:∃ x,x=O.o parseV p:=⟨_,rfl⟩
     rw[← hx] at kp hsn
     obtain⟨A1,hA1⟩:∃ A,A=O.o Nds.enc (O.o (accV s) (j+1)):=⟨_,rfl⟩
     clear hx g2 hnil hAE hpm hD hp
     obtain⟨k,t,nn,l⟩:=x
     (repeat' first|(refine Na ?_ fun _ _=>?_;(focus lia);cbv)|(refine Ex.mk _ (hrow _ (by assumption)) ?_;cbv)|(refine CallThen.mk _ _ (C.fn (kp)) ?_;cbv)|(refine Back.to (j+1) [(51,.loc 4032)] [] ?_ fun _ _=>?_;rotate_left;cbv)|(refine Nl fun _ _ hq=>?_;(try simp only [lenS] at hq);cbv)|(refine Nm fun _ _=>?_;cbv)|(refine Br.t ?_ ?_;(focus first|assumption|lia);cbv)|(refine Need.mk ?_ ?_;rotate_left;cbv))
     all_goals first
      | exact roomN hacl (by decide)
      | exact⟨⟨by omega,hst⟩,by show M-(j+1)<M-j;omega⟩
      | (rename_i R eR q eq y ey;subst ey;refine⟨.of_eq (hsn.trans eR.symm),.refl _,?_,trivial⟩;clear hrow kp hsn hst;lia)
      | (rename_i R eR q eq y ey;subst ey;refine⟨.refl _,.of_eq (hsn.trans eR.symm),?_,trivial⟩;clear hrow kp hsn hst;lia)
      | (clear hrow kp hsn hst;lia)
      | (exfalso;clear hrow kp hsn hst;lia)
      | trace_state
    ·have hAE2:firstE D=parseE p:=firstE_at hp he g2
     obtain⟨q1,q2⟩:=hnil he (by rw[hAE,hAE2])
     obtain⟨v,hv⟩:∃ v,v=parseE p:=⟨_,rfl⟩
     rw[show O.o parseE p=v by rw[O.h,hv]] at kp
     rw[← hv] at he q1
     obtain⟨x,hx⟩:∃ x,x=O.o parseV p:=⟨_,rfl⟩
     rw[← hx] at kp
     clear hx g2 hnil hAE hpm hD hp hAE2 hv
     obtain⟨k,t,nn,l⟩:=x
     (repeat' first|(refine Ex.mk _ (hrow _ (by assumption)) ?_;cbv)|(refine CallThen.mk _ _ (C.fn (kp)) ?_;cbv)|(refine Nm fun _ _=>?_;cbv)|(refine Br.t ?_ ?_;(focus first|assumption|lia);cbv)|(refine Br.f ?_ ?_;(focus first|assumption|lia);cbv)|(refine Need.mk ?_ ?_;rotate_left;cbv)|(refine R0 ?_;cbv))
     all_goals first
      | exact⟨q2,q1,trivial⟩
      | (clear hrow kp;lia)
      | (exfalso;clear hrow kp;lia)
      | (exfalso;exact he (by assumption))
      | trace_state
   ·have hA0:allE s=0:=by rw[hAE];exact firstE_zero fun p hp=>by obtain⟨k,hk,rfl⟩:=List.getElem_of_mem hp;exact g2 k _ (by omega) (by simp)
    have q1:E=0:=by rw[hE,O.h];exact hA0
    have q2:R=O.o Nds.enc (O.o (accV s) j):=by
     rw[hR,O.h allV,O.h (accV s),allV,if_pos hA0,accV,List.take_of_length_le (by rw[← hD];omega)]
    clear g2 hnil hAE hD hE hR
    (repeat' first|(refine RetThen.mk [] [51] ?_;cbv)|(refine Nl fun _ _ hq=>?_;(try simp only [lenS] at hq);cbv)|(refine Nm fun _ _=>?_;cbv)|(refine Br.f ?_ ?_;(focus first|assumption|lia);cbv))
    all_goals first
     | exact⟨.of_eq q2,q1,trivial⟩
     | (refine⟨.of_eq ?_,q1,trivial⟩;rw[q2];symm;assumption)
     | (exfalso;lia)
     | trace_state
open Go Go.Proofs Go.Proofs.Tryz
theorem parse_NdS (s:List UInt8):NdS (parseV s):=by
 by_cases h:parseE s=0
 ·obtain⟨e,he,_,hv,_⟩:=parse_made h
  rw[hv];exact ok_small he
 ·rw[parseV,if_neg h];exact .mk (by simp) (by simp) (by simp)
theorem allV_small (s:List UInt8):(∀ x∈allV s,NdS x)∧(allV s).length≤4:=by
 unfold allV
 split
 ·rename_i h
  have h4:(splitLC s).length≤4:=by
   unfold allE at h
   split at h
   ·cases h
   ·omega
  refine⟨fun x hx=>?_,by simpa using h4⟩
  obtain⟨y,_,rfl⟩:=List.mem_map.1 hx
  exact parse_NdS y
 ·exact⟨by simp,by simp⟩
open Go
open Go.Sort (swp partEqLoop partitionEqual partition insOuter insertionSort heapSort breakPatterns choosePivot reverseRange partialInsertionSort pdq Hint)
def pdqS (d:Array PairK) (a b l p:Nat) (wb wp:Bool):Array PairK :=
 if 0<a∧¬ ordI d[a-1]! d[p]!<0 then pdq ltP (partitionEqual ltP d a b p).2 (partitionEqual ltP d a b p).1 b l wb wp
 else if (partition ltP d a b p).1-a<b-(partition ltP d a b p).1 then
  pdq ltP (pdq ltP (partition ltP d a b p).2.2 a (partition ltP d a b p).1 l true true) ((partition ltP d a b p).1+1) b l (decide ((partition ltP d a b p).1-a ≥ (b-a) / 8)) (partition ltP d a b p).2.1
 else
  pdq ltP (pdq ltP (partition ltP d a b p).2.2 ((partition ltP d a b p).1+1) b l true true) a (partition ltP d a b p).1 l (decide (b-(partition ltP d a b p).1 ≥ (b-a) / 8)) (partition ltP d a b p).2.1
theorem pdq_small {d:Array PairK} {a b l:Nat} {wb wp:Bool} (h:b-a≤12):pdq ltP d a b l wb wp=insertionSort ltP d a b:=by
 rw[pdq,if_pos h]
theorem pdq_heap {d:Array PairK} {a b l:Nat} {wb wp:Bool} (h:¬ b-a≤12) (hl:l=0):pdq ltP d a b l wb wp=heapSort ltP d a b:=by
 rw[pdq,if_neg h,if_pos hl]
theorem pdq_at {d d1 d2 d3:Array PairK} {a b l l' p:Nat} {wb wp pb:Bool} {c:Nat×Hint} (h:¬ b-a≤12) (hl:¬ l=0)
  (h1:d1=if wb=false then breakPatterns d a b else d) (hl':l'=if wb=false then l-1 else l) (hc:c=choosePivot ltP d1 a b)
  (h2:d2=if c.2=.decreasing then reverseRange d1 a b else d1) (hp:p=if c.2=.decreasing then b-1-(c.1-a) else c.1)
  (h3:(d3,pb)=if wb=true∧wp=true∧c.2≠.unknown then partialInsertionSort ltP d2 a b else(d2,false))
  (hq:a<(partitionEqual ltP d3 a b p).1∧(partitionEqual ltP d3 a b p).1≤b) (hr:a≤(partition ltP d3 a b p).1∧(partition ltP d3 a b p).1<b) :
  pdq ltP d a b l wb wp=if pb=true then d3 else pdqS d3 a b l' p wb wp:=by
 have e1:(if !wb then breakPatterns d a b else d)=d1:=by rw[h1];cases wb<;>rfl
 have e2:(if !wb then l-1 else l)=l':=by rw[hl'];cases wb<;>rfl
 have e3:(if c.2=.decreasing then reverseRange d1 a b else d1)=d2:=h2.symm
 have e4:(if c.2=.decreasing then b-1-(c.1-a) else c.1)=p:=hp.symm
 have e5:(if (wb && wp && decide ((if c.2=Hint.decreasing then Hint.increasing else c.2)=Hint.increasing))=true then partialInsertionSort ltP d2 a b else(d2,false))=(d3,pb):=by
  rw[h3]
  cases wb<;>cases wp<;>cases c.2<;>simp
 rw[pdq,if_neg h,if_neg hl]
 simp only [e1,e2,← hc,e3,e4,e5]
 cases pb
 ·simp only [Bool.false_eq_true,if_false]
  unfold pdqS
  by_cases k:0<a∧¬ ordI d3[a-1]! d3[p]!<0
  ·have kb:(decide (a > 0) && !ltP d3[a-1]! d3[p]!)=true:=by
    have k2:ltP d3[a-1]! d3[p]! = false:=by rw[ltP,decide_eq_false_iff_not];exact k.2
    rw[k2];simpa using k.1
   rw[if_pos k]
   simp only [kb,if_true]
   rw[dif_pos hq]
  ·have kb:(decide (a > 0) && !ltP d3[a-1]! d3[p]!)=false:=by
    by_cases ha:0<a
    ·have k2:ltP d3[a-1]! d3[p]! = true:=by rw[ltP,decide_eq_true_eq];exact Classical.byContradiction fun q=>k ⟨ha,q⟩
     rw[k2];simp
    ·simp [ha]
   rw[if_neg k]
   simp only [kb,Bool.false_eq_true,if_false]
   rw[dif_pos hr]
 ·simp only [if_true]
theorem insInner_size' (a:Nat):∀ (j:Nat) (e:Array PairK),(Go.Sort.insInner ltP a j e).size=e.size
 | 0,_=>rfl
 | j+1,e=>by
  rw[Go.Sort.insInner]
  split
  ·rw[insInner_size',swp_size]
  ·rfl
theorem insOuter_size (a b:Nat):∀ (m i:Nat) (d:Array PairK),b-i≤m→(insOuter ltP a b i d).size=d.size:=by
 intro m
 induction m with
 | zero=>intro i d h;rw[insOuter,if_neg (by omega)]
 | succ m ih =>
  intro i d h
  rw[insOuter]
  split
  ·rw[ih _ _ (by omega),insInner_size']
  ·rfl
def putP (l:List PairK) (p:PairK):List PairK:=l.takeWhile (fun q=>ltP q p)++p::l.dropWhile (fun q=>ltP q p)
def idxSort (l:List PairK):List PairK:=(Go.Sort.sort ltP l.toArray).toList
def ascP (l:List PairK):Prop:=l.Pairwise lessP
theorem putP_perm (l:List PairK) (p:PairK):(putP l p).Perm (p::l):=by
 unfold putP
 refine List.perm_middle.trans ?_
 rw[List.takeWhile_append_dropWhile]
theorem takeW_all (p:PairK):∀ (l:List PairK),∀ q∈l.takeWhile (fun q=>ltP q p),lessP q p
 | [],q,h=>by simp at h
 | x::r,q,h=>by
  rw[List.takeWhile_cons] at h
  split at h
  ·rename_i hx
   rcases List.mem_cons.1 h with rfl|h
   ·exact ltP_iff.1 hx
   ·exact takeW_all p r q h
  ·simp at h
theorem dropW_all (p:PairK):∀ (l:List PairK),ascP l→(∀ q∈l,q≠p)→∀ q∈l.dropWhile (fun q=>ltP q p),lessP p q
 | [],_,_,q,h=>by simp at h
 | x::r,hs,hn,q,h=>by
  rw[List.dropWhile_cons] at h
  split at h
  ·exact dropW_all p r (List.pairwise_cons.1 hs).2 (fun q hq=>hn q (by simp [hq])) q h
  ·rename_i hx
   have hx:¬ lessP x p:=fun k=>hx (ltP_iff.2 k)
   have hpx:lessP p x:=by
    rcases lessP_tri x p with k|k|k
    ·exact absurd k hx
    ·exact absurd k (hn x (by simp))
    ·exact k
   rcases List.mem_cons.1 h with rfl|h
   ·exact hpx
   ·exact lessP_trans hpx ((List.pairwise_cons.1 hs).1 q h)
theorem putP_asc {l:List PairK} {p:PairK} (hs:ascP l) (hn:∀ q∈l,q≠p):ascP (putP l p):=by
 unfold putP ascP
 have h1:=takeW_all p l
 have h2:=dropW_all p l hs hn
 have e:l.takeWhile (fun q=>ltP q p)++l.dropWhile (fun q=>ltP q p)=l:=List.takeWhile_append_dropWhile
 have hs':ascP (l.takeWhile (fun q=>ltP q p)++l.dropWhile (fun q=>ltP q p)):=by rw[e];exact hs
 obtain⟨a1,a2,a3⟩:=List.pairwise_append.1 hs'
 refine List.pairwise_append.2 ⟨a1,List.pairwise_cons.2 ⟨h2,a2⟩,fun x hx y hy=>?_⟩
 rcases List.mem_cons.1 hy with rfl|hy
 ·exact h1 x hx
 ·exact a3 x hx y hy
theorem asc_unique {l m:List PairK} (hp:l.Perm m) (h1:ascP l) (h2:ascP m):l=m :=
 List.Perm.eq_of_pairwise (le:=lessP) (fun a b _ _ h k=>absurd (lessP_trans h k) (lessP_irrefl a)) h1 h2 hp
theorem idxSort_perm (l:List PairK):(idxSort l).Perm l:=by
 have h:=(Go.Sort.sort_sorts ltP ltP_swo l.toArray).1
 have h2:=h.2.2
 have hs:=h.1
 unfold idxSort
 simp only [List.size_toArray] at h2 hs
 rw[show(l.toArray.extract 0 l.length).toList=l by simp] at h2
 rw[show((Go.Sort.sort ltP l.toArray).extract 0 l.length)=Go.Sort.sort ltP l.toArray by rw[← hs];simp] at h2
 exact h2
theorem idxSort_asc {l:List PairK} (hn:l.Pairwise fun p q=>p≠q):ascP (idxSort l):=by
 have hp:=idxSort_perm l
 have h:=(Go.Sort.sort_sorts ltP ltP_swo l.toArray)
 have hs:=h.1.1
 have h2:=h.2
 have hn':(idxSort l).Pairwise fun p q=>p≠q:=hp.symm.pairwise hn fun h k=>h k.symm
 refine List.pairwise_iff_getElem.2 fun i j hi hj hij=>?_
 have k1:=List.pairwise_iff_getElem.1 hn' i j hi hj hij
 have hsz:(idxSort l).length=l.length:=hp.length_eq
 have k2:=h2 i j (by omega) hij (by simp;omega)
 have e1:(Go.Sort.sort ltP l.toArray)[i]! = (idxSort l)[i]:=by
  unfold idxSort at hi ⊢
  simp at hi
  simp [hi]
 have e2:(Go.Sort.sort ltP l.toArray)[j]! = (idxSort l)[j]:=by
  unfold idxSort at hj ⊢
  simp at hj
  simp [hj]
 rw[e1,e2] at k2
 rcases lessP_tri (idxSort l)[i] (idxSort l)[j] with k|k|k
 ·exact k
 ·exact absurd k k1
 ·exact absurd k (ltP_no.1 k2)
theorem putAll_eq {ps:List PairK} (hn:ps.Pairwise fun p q=>p≠q):ps.foldl putP []=idxSort ps:=by
 have step:∀ (ps acc:List PairK),ascP acc→(∀ p∈ps,∀ q∈acc,q≠p)→(ps.Pairwise fun p q=>p≠q)→ascP (ps.foldl putP acc)∧(ps.foldl putP acc).Perm (ps++acc):=by
  intro ps
  induction ps with
  | nil=>intro acc h _ _;exact⟨h,.refl _⟩
  | cons p ps ih =>
   intro acc h1 h2 h3
   have hp:=putP_perm acc p
   have hx:=List.pairwise_cons.1 h3
   have:=ih (putP acc p) (putP_asc h1 fun q hq=>h2 p (by simp) q hq) (fun p' hp' q hq=>by
    rcases List.mem_cons.1 (hp.mem_iff.1 hq) with rfl|hq
    ·exact hx.1 p' hp'
    ·exact h2 p' (by simp [hp']) q hq) hx.2
   exact⟨this.1,this.2.trans ((hp.append_left ps).trans List.perm_middle)⟩
 have:=step ps [] List.Pairwise.nil (by simp) hn
 rw[List.append_nil] at this
 exact asc_unique (this.2.trans (idxSort_perm ps).symm) this.1 (idxSort_asc hn)
theorem seqO_all {α β:Type} {f:α→Option β}:∀ {l:List α} {vs:List β},seqO f l=some vs→∀ v∈vs,∃ x∈l,f x=some v
 | [],vs,h,v,hv=>by cases h;cases hv
 | x::r,vs,h,v,hv=>by
  rw[seqO] at h
  split at h
  ·cases h
  ·rename_i w hw
   split at h
   ·cases h
   ·rename_i ws hws
    cases h
    rcases List.mem_cons.1 hv with rfl|hv
    ·exact⟨x,by simp,hw⟩
    ·obtain⟨y,hy,h⟩:=seqO_all hws v hv
     exact⟨y,by simp [hy],h⟩
theorem eallL_ok (d:Doc) (l:List Nd):(∀ v∈eallL d l,v.Ok)∧(eallL d l).length≤4:=by
 cases h:eallO d l with
 | none=>rw[(eall_no h).1];exact⟨by simp,by simp⟩
 | some vs =>
  rw[(eall_yes h).1]
  unfold eallO at h
  split at h
  ·cases h
  ·rename_i hc
   refine⟨fun v hv=>?_,?_⟩
   ·obtain⟨x,_,hx⟩:=seqO_all h v hv
    exact evO_ok hx
   ·rw[seqO_len h];exact Nat.le_of_not_lt fun k=>hc (.inr k)
noncomputable def entP (defs:List Nd) (k:ByteArray) (d:Doc):PairK:=⟨ofL (keyB (eallL d defs)),k⟩
noncomputable def entsL (defs:List Nd) (docs:List Ndoc):List PairK:=docs.filterMap fun n=>if eallB n.doc defs=true then some (entP defs n.key n.doc) else none
noncomputable def withP (defs:List Nd) (l:List PairK) (k:ByteArray) (d:Doc):List PairK:=if eallB d defs=true then putP l (entP defs k d) else l
noncomputable def refBuild (defs:List Nd) (docs:List Ndoc):List PairK:=docs.foldl (fun l n=>withP defs l n.key n.doc) []
theorem entsL_snoc {defs:List Nd} {docs:List Ndoc} {k:Nat} {x:Ndoc} (h:docs[k]?=some x):entsL defs (docs.take (k+1))=if eallB x.doc defs=true then entsL defs (docs.take k)++[entP defs x.key x.doc] else entsL defs (docs.take k):=by
 rw[List.take_add_one,h]
 unfold entsL
 rw[List.filterMap_append]
 split<;>rename_i hb<;>simp [hb]
theorem refBuild_snoc {defs:List Nd} {docs:List Ndoc} {k:Nat} {x:Ndoc} (h:docs[k]?=some x):refBuild defs (docs.take (k+1))=withP defs (refBuild defs (docs.take k)) x.key x.doc:=by
 rw[List.take_add_one,h]
 unfold refBuild
 rw[List.foldl_append]
 rfl
theorem entsL_len (defs:List Nd) (docs:List Ndoc):(entsL defs docs).length≤docs.length:=List.length_filterMap_le _ _
theorem refBuild_fold (defs:List Nd):∀ (docs:List Ndoc) (acc:List PairK),docs.foldl (fun l n=>withP defs l n.key n.doc) acc=(entsL defs docs).foldl putP acc
 | [],acc=>rfl
 | x::r,acc=>by
  rw[List.foldl_cons,refBuild_fold defs r]
  unfold entsL withP
  rw[List.filterMap_cons]
  split<;>rename_i hb
  ·rfl
  ·rfl
theorem entsL_vals {defs:List Nd} {docs:List Ndoc}:∀ p∈entsL defs docs,∃ n∈docs,p.val=n.key:=fun p hp=>by
 obtain⟨n,hn,h⟩:=List.mem_filterMap.1 hp
 split at h
 ·cases h;exact⟨n,hn,rfl⟩
 ·cases h
theorem entsL_distinct (defs:List Nd):∀ {docs:List Ndoc},sortedK Ndoc.key docs→(entsL defs docs).Pairwise fun p q=>p≠q
 | [],_=>List.Pairwise.nil
 | x::r,h=>by
  have h:=List.pairwise_cons.1 h
  have ih:=entsL_distinct defs (docs:=r) h.2
  unfold entsL
  rw[List.filterMap_cons]
  split
  ·exact ih
  ·rename_i p hp
   split at hp
   ·cases hp
    refine List.pairwise_cons.2 ⟨fun q hq e=>?_,ih⟩
    obtain⟨n,hn,hv⟩:=entsL_vals q hq
    have:=h.1 n hn
    rw[← hv,← e] at this
    exact slt_irrefl _ this
   ·cases hp
theorem refBuild_eq (defs:List Nd) {docs:List Ndoc} (h:docsOk docs=true):refBuild defs docs=idxSort (entsL defs docs):=by
 unfold refBuild
 rw[refBuild_fold,putAll_eq (entsL_distinct defs (docsOk_iff.1 h).2)]
def aB:ByteArray:=⟨#[97]⟩
def xB:ByteArray:=⟨#[120]⟩
def yB:ByteArray:=⟨#[121]⟩
def zB:ByteArray:=⟨#[122]⟩
def oneD (n:Int):Doc:=[⟨aB,numV n⟩]
def docs0:List Ndoc:=[⟨xB,oneD 2⟩,⟨yB,oneD 1⟩,⟨zB,[]⟩]
def nodeA:Nd:=(Xp.path [97]).nd
theorem nodeA_ok:(Xp.path [97]).Ok lexE:=.path (by show leafL [97]=some (.path [97]);exact leaf_path (by decide) (by decide))
theorem all_a:allE [97]=0∧allV [97]=[nodeA]:=by
 have hd:Der lexE.toLex 2 [97] (Xp.path [97]):=(txt_der nodeA_ok).up (Xp.lvl_le _)
 have hp:parse0 [97]=((Xp.path [97]).nd,[],false):=parse_some (L:=lexT) (by decide) hd
 have h:parseE [97]=0:=by
  rw[parseE,if_neg (by decide),if_neg (by rw[hp];simp),if_neg (by rw[hp];decide)]
 have hs:splitLC [97]=[[97]]:=by decide
 have he:allE [97]=0:=by
  rw[allE,hs,if_neg (by decide)]
  exact firstE_zero fun p hp=>by simp at hp;subst hp;exact h
 refine⟨he,?_⟩
 rw[allV,if_pos he,hs,List.map_singleton,parseV,if_pos h,hp]
 rfl
theorem oneD_may (n:Int) (h:-9007199254740992≤n∧n≤9007199254740992):may (oneD n)=true:=may_true (by show(1:Nat)≤16;decide) (fun i hi=>by
 have:i=0:=by simp [oneD] at hi;omega
 subst this
 exact⟨_,rfl,by show isPath aB=true;decide,numV_ok.2 h,fun h=>absurd h (by decide)⟩)
theorem nil_may:may []=true:=may_true (by decide) (fun i hi=>by simp at hi)
theorem ev_one (n:Int) (h:-9007199254740992≤n∧n≤9007199254740992):eallL (oneD n) [nodeA]=[numV n]∧eallB (oneD n) [nodeA]=true:=by
 have e:ofL [97]=aB:=rfl
 have hh:hasP aB ⟨aB,numV n⟩=true:=by simp [hasP]
 have g1:getB (oneD n) (ofL [97])=true:=by rw[e];simp [getB,oneD,hh]
 have g2:getV (oneD n) (ofL [97])=numV n:=by rw[e];simp [getV,oneD,hh]
 have hv:valO (oneD n) (.mk 1 [97] 0 [])=some (numV n):=by
  rw[valO,valsO]
  refine okV_some.2 ⟨?_,numV_ok.2 h⟩
  unfold rawO
  rw[if_pos rfl,if_pos g1,g2]
 have he:evO (oneD n) nodeA=some (numV n):=by
  rw[evO,if_pos (show chkE nodeA=0 from made_chk nodeA_ok (by decide +kernel)),if_pos (oneD_may n h)]
  exact hv
 refine eall_yes ?_
 rw[eallO,if_neg (by simp),seqO,he,seqO]
theorem ev_nil:eallB [] [nodeA]=false:=by
 have g1:¬ getB [] (ofL [97])=true:=by simp [getB]
 have hv:valO [] (.mk 1 [97] 0 [])=none:=by
  rw[valO,valsO]
  show okV (rawO [] 1 [97] 0 [])=none
  unfold rawO
  rw[if_pos rfl,if_neg g1]
  rfl
 have he:evO [] nodeA=none:=by
  rw[evO,if_pos (show chkE nodeA=0 from made_chk nodeA_ok (by decide +kernel)),if_pos nil_may]
  exact hv
 refine(eall_no ?_).2
 rw[eallO,if_neg (by simp),seqO,he]
theorem docs0_ok:docsOk docs0=true:=docsOk_good fun i hi=>by
 have:i=0∨i=1∨i=2:=by simp [docs0] at hi;omega
 rcases this with rfl|rfl|rfl
 ·exact⟨_,rfl,by show isKey xB=true;decide,oneD_may 2 (by decide),fun h=>absurd h (by decide)⟩
 ·exact⟨_,rfl,by show isKey yB=true;decide,oneD_may 1 (by decide),fun _=>⟨_,rfl,by show slt xB yB;rw[slt_iff,Lib.toList_data,Lib.toList_data];decide⟩⟩
 ·exact⟨_,rfl,by show isKey zB=true;decide,nil_may,fun _=>⟨_,rfl,by show slt yB zB;rw[slt_iff,Lib.toList_data,Lib.toList_data];decide⟩⟩
def kB (n:Int):ByteArray:=ofL (keyB [numV n])
theorem ents0:idxSort (entsL [nodeA] docs0)=[⟨kB 1,yB⟩,⟨kB 2,xB⟩]:=by
 have h2:=ev_one 2 (by decide)
 have h1:=ev_one 1 (by decide)
 have e:entsL [nodeA] docs0=[⟨kB 2,xB⟩,⟨kB 1,yB⟩]:=by
  unfold entsL docs0
  simp only [List.filterMap_cons,List.filterMap_nil,h1.2,h2.2,ev_nil,if_true,Bool.false_eq_true,if_false,entP,h1.1,h2.1]
  rfl
 have hs:lessP ⟨kB 1,yB⟩ ⟨kB 2,xB⟩:=.inl (by
  show slt (kB 1) (kB 2)
  rw[slt_iff,Lib.toList_data,Lib.toList_data]
  decide +kernel)
 have hn:(entsL [nodeA] docs0).Pairwise fun p q=>p≠q:=entsL_distinct _ (docsOk_iff.1 docs0_ok).2
 refine asc_unique ((idxSort_perm _).trans ?_) (idxSort_asc hn) (by simp [ascP,hs])
 rw[e]
 exact List.Perm.swap _ _ _
end Go.Sym
