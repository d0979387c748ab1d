/- The document's reading of expressions: a list of texts. -/
import Derived.Test.YtfdbdalnpdgfmaaGreatDoorK25
set_option linter.all false
set_option linter.unusedVariables false
set_option linter.unusedSimpArgs false
namespace Go.Sym
open Go Go.Proofs.Tryz
set_option maxRecDepth 100000
def StrL (D:List (List UInt8)):List (List PV):=Strs (D.map ofL)
theorem StrL_snoc (O:Opq) (D:List (List UInt8)) (p:List UInt8):O.o StrL (D++[p])=O.o StrL D++[[.str (O.o ofL p)]]:=by
 have:=Strs_snoc O D p
 rw[O.h StrL]
 rw[O.h Strs] at this
 exact this
theorem room1 {n m:Nat} {x:List PV} (h:n≤1000000001) (hm:m≤16):(n+[x].length) * m≤2 ^ 44∧n+[x].length≤2 ^ 60:=by
 have:(n+[x].length) * m≤(1000000001+1) * 16:=Nat.mul_le_mul (by simp;omega) hm
 exact⟨Nat.le_trans this (by decide),by simp;omega⟩
set_option maxHeartbeats 2000000 in
theorem reall_fn (O:Opq) (s:List UInt8) (hl:s.length≤1000000000):Fn prog 7 [.str (O.o ofL s)] [] [.sl false 0 false 4 (O.o Nds.enc (O.o allV s)),.int .i64 (O.o allE s)] []:=by
 have e1:O.o Nds.enc []=[]:=Nds.nil O
 have hsz:(O.o ofL s).size=s.length:=by rw[O.h,size_ofL]
 have hb:∀ i:Nat,byteAt (O.o ofL s) i=((s.getD i 0).toNat:Int):=fun i=>by rw[O.h,byteAt_ofL]
 have hcut:∀ a b:Nat,O.o ofL ((s.take b).drop a)=(O.o ofL s).extract a b:=fun a b=>by simp only [O.h];exact cut_range s a b
 have hnil:∀ {e:Int},e≠0→allE s=e→O.o allE s=e∧O.o Nds.enc (O.o allV s)=[]:=fun {e} h0 h=>by
  rw[O.h allE,O.h allV]
  exact⟨h,by rw[allV,if_neg (by rw[h];exact h0)];exact e1⟩
 obtain⟨S,hS⟩:∃ S,S=O.o ofL s:=⟨_,rfl⟩
 rw[← hS] at hsz hb hcut ⊢
 obtain⟨R,hR⟩:∃ R,R=O.o Nds.enc (O.o allV s):=⟨_,rfl⟩
 obtain⟨E,hE⟩:∃ E,E=O.o allE s:=⟨_,rfl⟩
 rw[← hR,← hE] at hnil ⊢
 obtain⟨z,hz⟩:∃ z:Nat,z=0:=⟨_,rfl⟩
 obtain⟨Z,hZ⟩:∃ z:List (List UInt8),z=[]:=⟨_,rfl⟩
 have hZ0:O.o StrL Z=[]:=by rw[O.h,hZ];rfl
 have hSl:∀ D:List (List UInt8),(O.o StrL D).length=D.length:=fun D=>by rw[O.h,StrL,Strs_len,List.length_map]
 obtain⟨N,hN⟩:∃ N:Nat,N=s.length+1:=⟨_,rfl⟩
 clear hS
 refine go (fn:=Proofs.Tryz.f7) (n:=62) (rv:=[ResultVar.tmp 2,ResultVar.tmp 3]) rfl (by decide) rfl (by decide +kernel) rfl rfl (by simp) fun F L C=>?_
 cbv
 (repeat' first|(refine Na ?_ fun _ _=>?_;(focus lia);cbv)|(refine Nl fun _ _ hq=>?_;(try simp only [lenS] at hq);cbv)|(refine Nm fun _ _=>?_;cbv)|(refine Br.t ?_ ?_;(focus first|assumption|lia);cbv)|(refine Br.f ?_ ?_;(focus first|assumption|lia);cbv)|(refine Br.mk (fun _=>?_) (fun _=>?_)<;>cbv)|(refine Need.mk ?_ ?_;rotate_left;cbv)|(refine R0 ?_;cbv))
 refine LoopThen.mk (C.loopAt (ι:=Nat×Nat×List (List UInt8)) [(4,6),(12,36)] (fun x=>[(4,.ref 50),(5,.int .i64 x.2.1),(6,.int .i64 x.1),(11,.top)]) (fun x=>[(50,.arr 0 none 1 (O.o StrL x.2.2))])
  (fun x=>CutAt s x.1 x.2.1 x.2.2) (fun x=>N-x.1) (by decide +kernel) (Start.mk (z,z,Z) [(50,.loc 832)] [] (by subst hz;subst hZ;exact CutAt.start s) ?_) ?_)
 ·cbv
  (repeat' apply And.intro)<;>first|exact True.intro|exact WkR.refl _|rfl|exact .of_eq hZ0|(clear hb hcut hSl;lia)|trace_state
 rintro ⟨i,st,D⟩ g
 cbv
 have g1:CutAt s i st D:=g
 clear g hZ0
 obtain⟨c1,c2⟩:=g1.le
 have c3:=g1.count
 have hDl:=hSl D
 have hal:(O.o StrL D).length≤1000000001:=by omega
 by_cases hi:i<s.length
 ·have hv:=hb i
  have h44:=u8_int (c:=s.getD i 0) (k:=44) (by decide)
  by_cases hc:s.getD i 0=44
  ·have hv2:byteAt S i=44:=by rw[hv];exact h44.2 hc
   have g2:=g1.comma hi hc
   have hx:=hcut st i
   have hsn:=StrL_snoc O D ((s.take i).drop st)
   obtain⟨x,hxx⟩:∃ x,x=(s.take i).drop st:=⟨_,rfl⟩
   rw[← hxx] at hx hsn g2
   obtain⟨D1,hD1⟩:∃ D1,D1=D++[x]:=⟨_,rfl⟩
   rw[← hD1] at hsn g2
   obtain⟨X,hX⟩:∃ X,X=O.o ofL x:=⟨_,rfl⟩
   rw[← hX] at hx hsn
   clear hb hcut hSl hv h44 hc g1 hxx hX hD1
   (repeat' first|(refine Named.at' X hx ?_;cbv)|(refine Na ?_ fun _ _=>?_;(focus lia);cbv)|(refine Back.to (i+1,i+1,D1) [(50,.loc 2304)] [] ?_ fun _ _=>?_;rotate_left;cbv)|(refine Nl fun _ _ hq=>?_;(try simp only [lenS] at hq);cbv)|(refine Nm fun _ _=>?_;cbv)|(refine Br.t ?_ ?_;(focus first|assumption|lia);cbv)|(refine Br.f ?_ ?_;(focus first|assumption|lia);cbv)|(refine Br.mk (fun _=>?_) (fun _=>?_)<;>cbv)|(refine Need.mk ?_ ?_;rotate_left;cbv)|(refine R0 ?_;cbv))
   all_goals first
    | exact room1 hal (by decide)
    | exact⟨g2,by show N-(i+1)<N-i;omega⟩
    | (rename_i R eR q eq y ey;subst ey;refine⟨.of_eq (hsn.trans eR.symm),?_,?_,trivial⟩<;>clear hx hsn g2<;>lia)
    | (rename_i R eR i1 e1 i2 e2 y ey;subst ey;refine⟨.of_eq (hsn.trans eR.symm),?_,?_,trivial⟩<;>clear hx hsn g2<;>lia)
    | (clear hx hsn g2;lia)
    | trace_state
  ·have hv2:¬ byteAt S i=44:=by rw[hv];exact fun e=>hc (h44.1 e)
   have g2:=g1.go hi hc
   clear hb hcut hSl hv h44 hc g1
   (repeat' first|(refine Na ?_ fun _ _=>?_;(focus lia);cbv)|(refine Back.to (i+1,st,D) [] [] ?_ fun _ _=>?_;rotate_left;cbv)|(refine Nl fun _ _ hq=>?_;(try simp only [lenS] at hq);cbv)|(refine Nm fun _ _=>?_;cbv)|(refine Br.t ?_ ?_;(focus first|assumption|lia);cbv)|(refine Br.f ?_ ?_;(focus first|assumption|lia);cbv)|(refine Br.mk (fun _=>?_) (fun _=>?_)<;>cbv)|(refine Need.mk ?_ ?_;rotate_left;cbv)|(refine R0 ?_;cbv))
   all_goals first
    | exact⟨g2,by show N-(i+1)<N-i;omega⟩
    | (rename_i y ey;subst ey;refine⟨.refl _,rfl,?_,trivial⟩;clear g2;lia)
    | (clear g2;lia)
    | (exfalso;clear g2;lia)
    | trace_state
 ·by_cases hi2:i=s.length
  ·have g2:=g1.last hi2
   have hx:=hcut st i
   have hsn:=StrL_snoc O D ((s.take i).drop st)
   obtain⟨x,hxx⟩:∃ x,x=(s.take i).drop st:=⟨_,rfl⟩
   rw[← hxx] at hx hsn g2
   obtain⟨D1,hD1⟩:∃ D1,D1=D++[x]:=⟨_,rfl⟩
   rw[← hD1] at hsn g2
   obtain⟨X,hX⟩:∃ X,X=O.o ofL x:=⟨_,rfl⟩
   rw[← hX] at hx hsn
   clear hb hcut hSl g1 hxx hX hD1
   (repeat' first|(refine Named.at' X hx ?_;cbv)|(refine Na ?_ fun _ _=>?_;(focus lia);cbv)|(refine Back.to (i+1,i+1,D1) [(50,.loc 2304)] [] ?_ fun _ _=>?_;rotate_left;cbv)|(refine Nl fun _ _ hq=>?_;(try simp only [lenS] at hq);cbv)|(refine Nm fun _ _=>?_;cbv)|(refine Br.t ?_ ?_;(focus first|assumption|lia);cbv)|(refine Br.f ?_ ?_;(focus first|assumption|lia);cbv)|(refine Br.mk (fun _=>?_) (fun _=>?_)<;>cbv)|(refine Need.mk ?_ ?_;rotate_left;cbv)|(refine R0 ?_;cbv))
   all_goals first
    | exact room1 hal (by decide)
    | exact⟨g2,by show N-(i+1)<N-i;omega⟩
    | (rename_i R eR q eq y ey;subst ey;refine⟨.of_eq (hsn.trans eR.symm),?_,?_,trivial⟩<;>clear hx hsn g2<;>lia)
    | (rename_i R eR i1 e1 i2 e2 y ey;subst ey;refine⟨.of_eq (hsn.trans eR.symm),?_,?_,trivial⟩<;>clear hx hsn g2<;>lia)
    | (clear hx hsn g2;lia)
    | trace_state
  ·have hD:=g1.done (by omega)
   have hD0:0<D.length:=by rw[hD,split_count];omega
   clear hb hcut hSl g1
   by_cases h4:4<D.length
   ·obtain⟨q1,q2⟩:=hnil (e:=5) (by decide) (by rw[allE,if_pos (by rw[← hD];exact h4)])
    clear hnil hD
    (repeat' first|(refine Na ?_ fun _ _=>?_;(focus lia);cbv)|(refine Nl fun _ _ hq=>?_;(try simp only [lenS] at hq);cbv)|(refine Nm fun _ _=>?_;cbv)|(refine Br.t ?_ ?_;(focus first|assumption|lia);cbv)|(refine Br.f ?_ ?_;(focus first|assumption|lia);cbv)|(refine Br.mk (fun _=>?_) (fun _=>?_)<;>cbv)|(refine Need.mk ?_ ?_;rotate_left;cbv)|(refine R0 ?_;cbv))
    all_goals first
     | exact⟨q2,q1,trivial⟩
     | (exfalso;lia)
     | trace_state
   have hAE:allE s=firstE D:=by rw[allE,if_neg (by rw[← hD];exact h4),← hD]
   have hz1:O.o Nds.enc (O.o (accV s) z)=[]:=by rw[O.h (accV s),hz];exact e1
   obtain⟨M,hM⟩:∃ M:Nat,M=D.length:=⟨_,rfl⟩
   (repeat' first|(refine Na ?_ fun _ _=>?_;(focus lia);cbv)|(refine Nl fun _ _ hq=>?_;(try simp only [lenS] at hq);cbv)|(refine Nm fun _ _=>?_;cbv)|(refine Br.t ?_ ?_;(focus first|assumption|lia);cbv)|(refine Br.f ?_ ?_;(focus first|assumption|lia);cbv)|(refine Br.mk (fun _=>?_) (fun _=>?_)<;>cbv)|(refine Need.mk ?_ ?_;rotate_left;cbv)|(refine R0 ?_;cbv))
   all_goals try(exfalso;clear hz1;lia)
   refine LoopThen.mk (C.loopAt (ι:=Nat) [(2,3),(7,10),(41,61)] (fun j=>[(7,.ref 51),(8,.int .i64 j),(9,.top),(40,.top)]) (fun j=>[(50,.arr 0 none 1 (O.o StrL D)),(51,.arr 0 none 4 (O.o Nds.enc (O.o (accV s) j)))])
    (fun j=>j≤M∧∀ (k:Nat) q,k<j→D[k]?=some q→parseE q=0) (fun j=>M-j) (by decide +kernel) (Start.mk z [(51,.loc 2688)] [] ⟨by omega,fun j q hj=>by omega⟩ ?_) ?_)
   ·cbv
    (repeat' apply And.intro)<;>first|exact True.intro|exact WkR.refl _|rfl|exact .of_eq hz1|exact hz1|(clear hz1;lia)|trace_state
   intro j g
   cbv
   have g1:j≤M:=g.1
   have g2:=g.2
   clear g hz1
   by_cases hj:j<D.length
   ·obtain⟨p,hp⟩:∃ p,D[j]?=some p:=⟨D[j],by simp [hj]⟩
    have hpm:(D.map ofL)[j]?=some (O.o ofL p):=by rw[List.getElem?_map,hp,O.h];rfl
    have hpl:p.length≤s.length:=piece_len (by rw[← hD];exact List.mem_of_getElem? hp)
    have kp:=rparse_fn O p (by omega)
    have hrow:∀ m:Nat,m=j→0≤Int.ofNat m∧(O.o StrL D)[(Int.ofNat m).toNat]?=some [.str (O.o ofL p)]:=fun m e=>by subst e;exact⟨Int.natCast_nonneg _,by rw[O.h,StrL,Strs_eq,List.getElem?_map,show(Int.ofNat m).toNat=m from rfl,hpm];rfl⟩
    by_cases he:parseE p=0
    ·rw[show O.o parseE p=0 by rw[O.h];exact he] at kp
     have hst:∀ (k:Nat) q,k<j+1→D[k]?=some q→parseE q=0:=fun k q hk hq=>by
      by_cases ej:k=j
      ·subst ej;rw[hp] at hq;cases hq;exact he
      ·exact g2 k q (by omega) hq
     have hsn:=accV_snoc O (s:=s) (i:=j) (by rw[← hD];exact hp)
     rw[show accV s (j+1)=O.o (accV s) (j+1) by rw[O.h],show accV s j=O.o (accV s) j by rw[O.h]] at hsn
     have hacl:(O.o Nds.enc (O.o (accV s) j)).length≤4:=by
      rw[Nds.en_len,O.h,accV,List.length_map,List.length_take];omega
     obtain⟨x,hx⟩:∃ x,x=O.o parseV p:=⟨_,rfl⟩
     rw[← hx] at kp hsn
     obtain⟨A1,hA1⟩:∃ A,A=O.o Nds.enc (O.o (accV s) (j+1)):=⟨_,rfl⟩
     clear hx g2 hnil hAE hpm hD hp
     obtain⟨k,t,nn,l⟩:=x
     (repeat' first|(refine Na ?_ fun _ _=>?_;(focus lia);cbv)|(refine Ex.mk _ (hrow _ (by assumption)) ?_;cbv)|(refine CallThen.mk _ _ (C.fn (kp)) ?_;cbv)|(refine Back.to (j+1) [(51,.loc 4032)] [] ?_ fun _ _=>?_;rotate_left;cbv)|(refine Nl fun _ _ hq=>?_;(try simp only [lenS] at hq);cbv)|(refine Nm fun _ _=>?_;cbv)|(refine Br.t ?_ ?_;(focus first|assumption|lia);cbv)|(refine Br.f ?_ ?_;(focus first|assumption|lia);cbv)|(refine Br.mk (fun _=>?_) (fun _=>?_)<;>cbv)|(refine Need.mk ?_ ?_;rotate_left;cbv)|(refine R0 ?_;cbv))
     all_goals first
      | exact roomN hacl (by decide)
      | exact⟨⟨by omega,hst⟩,by show M-(j+1)<M-j;omega⟩
      | (rename_i R eR q eq y ey;subst ey;refine⟨.of_eq (hsn.trans eR.symm),.refl _,?_,trivial⟩;clear hrow kp hsn hst;lia)
      | (rename_i R eR q eq y ey;subst ey;refine⟨.refl _,.of_eq (hsn.trans eR.symm),?_,trivial⟩;clear hrow kp hsn hst;lia)
      | (clear hrow kp hsn hst;lia)
      | (exfalso;clear hrow kp hsn hst;lia)
      | trace_state
    ·have hAE2:firstE D=parseE p:=firstE_at hp he g2
     obtain⟨q1,q2⟩:=hnil he (by rw[hAE,hAE2])
     obtain⟨v,hv⟩:∃ v,v=parseE p:=⟨_,rfl⟩
     rw[show O.o parseE p=v by rw[O.h,hv]] at kp
     rw[← hv] at he q1
     obtain⟨x,hx⟩:∃ x,x=O.o parseV p:=⟨_,rfl⟩
     rw[← hx] at kp
     clear hx g2 hnil hAE hpm hD hp hAE2 hv
     obtain⟨k,t,nn,l⟩:=x
     (repeat' first|(refine Na ?_ fun _ _=>?_;(focus lia);cbv)|(refine Ex.mk _ (hrow _ (by assumption)) ?_;cbv)|(refine CallThen.mk _ _ (C.fn (kp)) ?_;cbv)|(refine Nl fun _ _ hq=>?_;(try simp only [lenS] at hq);cbv)|(refine Nm fun _ _=>?_;cbv)|(refine Br.t ?_ ?_;(focus first|assumption|lia);cbv)|(refine Br.f ?_ ?_;(focus first|assumption|lia);cbv)|(refine Br.mk (fun _=>?_) (fun _=>?_)<;>cbv)|(refine Need.mk ?_ ?_;rotate_left;cbv)|(refine R0 ?_;cbv))
     all_goals first
      | exact⟨q2,q1,trivial⟩
      | (clear hrow kp;lia)
      | (exfalso;clear hrow kp;lia)
      | (exfalso;exact he (by assumption))
      | trace_state
   ·have hA0:allE s=0:=by rw[hAE];exact firstE_zero fun p hp=>by obtain⟨k,hk,rfl⟩:=List.getElem_of_mem hp;exact g2 k _ (by omega) (by simp)
    have q1:E=0:=by rw[hE,O.h];exact hA0
    have q2:R=O.o Nds.enc (O.o (accV s) j):=by
     rw[hR,O.h allV,O.h (accV s),allV,if_pos hA0,accV,List.take_of_length_le (by rw[← hD];omega)]
    clear g2 hnil hAE hD hE hR
    (repeat' first|(refine Na ?_ fun _ _=>?_;(focus lia);cbv)|(refine RetThen.mk [] [51] ?_;cbv)|(refine Nl fun _ _ hq=>?_;(try simp only [lenS] at hq);cbv)|(refine Nm fun _ _=>?_;cbv)|(refine Br.t ?_ ?_;(focus first|assumption|lia);cbv)|(refine Br.f ?_ ?_;(focus first|assumption|lia);cbv)|(refine Br.mk (fun _=>?_) (fun _=>?_)<;>cbv)|(refine Need.mk ?_ ?_;rotate_left;cbv)|(refine R0 ?_;cbv))
    all_goals first
     | exact⟨.of_eq q2,q1,trivial⟩
     | (refine⟨.of_eq ?_,q1,trivial⟩;rw[q2];symm;assumption)
     | (exfalso;lia)
     | trace_state
structure Shlf where
 dfn:ByteArray
 ready:Bool
 mark:Int
 ents:List PairK
def Shlf.enc (O:Opq) (s:Shlf):List PV:=[.str s.dfn,.bool s.ready,.int .i64 s.mark,.sl false 0 false 2 (O.o Prs.enc s.ents)]
def mayS (s:Shlf):Prop:=allE s.dfn.data.toList=0∧mayP s.ents∧0≤s.mark∧s.mark≤2147483647
theorem schk_fn (O:Opq) (s:Shlf) (hs:s.dfn.size≤1000000000) (hl:s.ents.length≤9223372036854775807) {R:Int} (hy:mayS s→R=(0:Int)) (hn:¬ mayS s→R=(1:Int)):Fn prog 16 [.agg (s.enc O)] [] [.int .i64 R] []:=by
 obtain⟨d,rd,mk,l⟩:=s
 have hs2:d.data.toList.length≤1000000000:=by rw[size_list];exact hs
 have k:=eall_fn O d.data.toList (by omega)
 rw[show O.o ofL d.data.toList=d by rw[O.h];exact eq_of_toL (toL_ofL _),O.h allE] at k
 have kc:=icheck_fn0 O l hl
 rw[O.h mayPE] at kc
 have hm:mayS ⟨d,rd,mk,l⟩ ↔ allE d.data.toList=0∧mayPE l=(0:Int)∧0≤mk∧mk≤2147483647:=by
  unfold mayS
  rw[show(mayPE l=(0:Int) ↔ mayP l) by unfold mayPE;split;(rename_i h;simp [mayPb_iff.1 h]);(rename_i h;simp;exact fun q=>h (mayPb_iff.2 q))]
 rw[hm] at hy hn
 obtain⟨E,hE⟩:∃ E,E=allE d.data.toList:=⟨_,rfl⟩
 obtain⟨V,hV⟩:∃ V,V=O.o Nds.enc (O.o allV d.data.toList):=⟨_,rfl⟩
 obtain⟨B,hB⟩:∃ B,B=mayPE l:=⟨_,rfl⟩
 rw[← hE,← hV] at k
 rw[← hE,← hB] at hy hn
 rw[← hB] at kc
 clear hm hE hV hB
 refine go (fn:=Proofs.Tryz.f16) (n:=28) (rv:=[ResultVar.tmp 2]) rfl (by decide) rfl (by decide +kernel) rfl rfl (by simp) fun F L C=>?_
 cbv
 (repeat' first|(refine Na ?_ fun _ _=>?_;(focus lia);cbv)|(refine CallThen.mk _ _ (C.fn (k)) ?_;cbv)|(refine CallThen.mk _ _ (C.fn (Fn.wkA (kc) ?_)) ?_;(focus((repeat' apply WkAL.cons)<;>first|exact WkAL.nil|exact WkA.refl _|exact WkA.lend rfl|exact WkA.bor rfl (WkR.refl _)|exact WkA.wk (Wk.nil _ _)|exact WkA.wk (Wk.sl' rfl rfl (WkR.refl _))|(refine WkA.agg' ?_;((repeat' apply WkAL.cons)<;>first|exact WkAL.nil|exact WkA.refl _|exact WkA.lend rfl|exact WkA.bor rfl (WkR.refl _)|exact WkA.wk (Wk.nil _ _)|exact WkA.wk (Wk.sl' rfl rfl (WkR.refl _))|(refine WkA.agg' ?_;((repeat' apply WkAL.cons)<;>first|exact WkAL.nil|exact WkA.refl _|exact WkA.lend rfl|exact WkA.bor rfl (WkR.refl _)|exact WkA.wk (Wk.nil _ _)|exact WkA.wk (Wk.sl' rfl rfl (WkR.refl _))))))));cbv)|(refine Nl fun _ _ hq=>?_;(try simp only [lenS] at hq);cbv)|(refine Nm fun _ _=>?_;cbv)|(refine Br.t ?_ ?_;(focus first|assumption|lia);cbv)|(refine Br.f ?_ ?_;(focus first|assumption|lia);cbv)|(refine Br.mk (fun _=>?_) (fun _=>?_)<;>cbv)|(refine Need.mk ?_ ?_;rotate_left;cbv)|(refine R0 ?_;cbv))
 all_goals first
  | exact⟨hy ⟨by lia,by first|assumption|lia,by lia,by lia⟩,trivial⟩
  | exact⟨(hy ⟨by lia,by first|assumption|lia,by lia,by lia⟩).symm,trivial⟩
  | exact⟨hn (by rintro ⟨h1,h2,h3,h4⟩;first|contradiction|(subst h2;contradiction)|lia),trivial⟩
  | exact⟨(hn (by rintro ⟨h1,h2,h3,h4⟩;first|contradiction|(subst h2;contradiction)|lia)).symm,trivial⟩
  | trace_state
theorem rschk_fn (O:Opq) (s:Shlf) (hs:s.dfn.size≤1000000000) (hl:s.ents.length≤9223372036854775807) {R:Bool} (hy:mayS s→R=true) (hn:¬ mayS s→R=false):Fn prog 9 [.agg (s.enc O)] [] [.bool R] []:=by
 obtain⟨d,rd,mk,l⟩:=s
 have hs2:d.data.toList.length≤1000000000:=by rw[size_list];exact hs
 have k:=reall_fn O d.data.toList (by omega)
 rw[show O.o ofL d.data.toList=d by rw[O.h];exact eq_of_toL (toL_ofL _),O.h allE] at k
 have kc:=rmayP_fn O l hl
 rw[O.h mayPb] at kc
 have hm:mayS ⟨d,rd,mk,l⟩ ↔ allE d.data.toList=0∧mayPb l=true∧0≤mk∧mk≤2147483647:=by
  unfold mayS
  rw[show(mayPb l=true ↔ mayP l) by exact mayPb_iff]
 rw[hm] at hy hn
 obtain⟨E,hE⟩:∃ E,E=allE d.data.toList:=⟨_,rfl⟩
 obtain⟨V,hV⟩:∃ V,V=O.o Nds.enc (O.o allV d.data.toList):=⟨_,rfl⟩
 obtain⟨B,hB⟩:∃ B,B=mayPb l:=⟨_,rfl⟩
 rw[← hE,← hV] at k
 rw[← hE,← hB] at hy hn
 rw[← hB] at kc
 clear hm hE hV hB
 refine go (fn:=Proofs.Tryz.f9) (n:=27) (rv:=[ResultVar.tmp 2]) rfl (by decide) rfl (by decide +kernel) rfl rfl (by simp) fun F L C=>?_
 cbv
 (repeat' first|(refine Na ?_ fun _ _=>?_;(focus lia);cbv)|(refine CallThen.mk _ _ (C.fn (k)) ?_;cbv)|(refine CallThen.bool (C.fn (kc)) (fun _=>?_) (fun _=>?_)<;>cbv)|(refine Nl fun _ _ hq=>?_;(try simp only [lenS] at hq);cbv)|(refine Nm fun _ _=>?_;cbv)|(refine Br.t ?_ ?_;(focus first|assumption|lia);cbv)|(refine Br.f ?_ ?_;(focus first|assumption|lia);cbv)|(refine Br.mk (fun _=>?_) (fun _=>?_)<;>cbv)|(refine Need.mk ?_ ?_;rotate_left;cbv)|(refine R0 ?_;cbv))
 all_goals first
  | exact⟨hy ⟨by lia,by first|assumption|lia,by lia,by lia⟩,trivial⟩
  | exact⟨(hy ⟨by lia,by first|assumption|lia,by lia,by lia⟩).symm,trivial⟩
  | exact⟨hn (by rintro ⟨h1,h2,h3,h4⟩;first|contradiction|(subst h2;contradiction)|lia),trivial⟩
  | exact⟨(hn (by rintro ⟨h1,h2,h3,h4⟩;first|contradiction|(subst h2;contradiction)|lia)).symm,trivial⟩
  | trace_state
noncomputable def foundA (s:Shlf) (o:Opn):Answer :=
 if o.most<1∨24<o.most then⟨1,false,[],[],[],0,0,[]⟩
 else if s.ready=false∨s.mark<o.n then⟨9,false,[],[],[],0,0,[]⟩
 else⟨0,false,[],[],[],s.mark,0,findP o.key o.to o.most s.ents⟩
theorem sfind_fn (O:Opq) (s:Shlf) (o:Opn) (hl:s.ents.length≤1000000) (hok:mayP s.ents):Fn prog 20 [.agg (s.enc O),.agg (Opn.en O o)] [] [.agg ((foundA s o).enc O)] []:=by
 have e1:O.o Doc.enc []=[]:=by rw[O.h];rfl
 have e2:O.o (Nms.enc O) []=[]:=by rw[O.h];rfl
 have e3:O.o (Chs.enc O) []=[]:=by rw[O.h];rfl
 have e4:O.o Prs.enc []=[]:=by rw[O.h];rfl
 obtain⟨d,rd,mk,l⟩:=s
 obtain⟨ok,okey,oto,odoc,ow,oh,on,om,olist,odocs,onews⟩:=o
 by_cases h1:om<1∨24<om
 ·rw[show foundA ⟨d,rd,mk,l⟩ (.mk ok okey oto odoc ow oh on om olist odocs onews)=⟨1,false,[],[],[],0,0,[]⟩ from if_pos h1]
  refine go (fn:=Proofs.Tryz.f20) (n:=43) (rv:=[ResultVar.cell 4 43]) rfl (by decide) rfl (by decide +kernel) rfl rfl (by simp) fun F L C=>?_
  cbv
  (repeat' first|(refine Na ?_ fun _ _=>?_;(focus lia);cbv)|(fail)|(refine Nl fun _ _ hq=>?_;(try simp only [lenS] at hq);cbv)|(refine Nm fun _ _=>?_;cbv)|(refine Br.t ?_ ?_;(focus first|assumption|lia);cbv)|(refine Br.f ?_ ?_;(focus first|assumption|lia);cbv)|(refine Br.mk (fun _=>?_) (fun _=>?_)<;>cbv)|(refine Need.mk ?_ ?_;rotate_left;cbv)|(refine R0 ?_;cbv))
  all_goals first
   | exact⟨e1,e2,e3,e4,trivial⟩
   | exact⟨e1,e2,e3,.refl _,trivial⟩
   | exact⟨e1,e2,e3,.refl _,rfl,trivial⟩
   | (exfalso;skip;lia)
   | trace_state
 ·by_cases h2:rd=false∨mk<on
  ·rw[show foundA ⟨d,rd,mk,l⟩ (.mk ok okey oto odoc ow oh on om olist odocs onews)=⟨9,false,[],[],[],0,0,[]⟩ from(if_neg h1).trans (if_pos h2)]
   cases rd
   ·clear h2
    refine go (fn:=Proofs.Tryz.f20) (n:=43) (rv:=[ResultVar.cell 4 43]) rfl (by decide) rfl (by decide +kernel) rfl rfl (by simp) fun F L C=>?_
    cbv
    (repeat' first|(refine Na ?_ fun _ _=>?_;(focus lia);cbv)|(fail)|(refine Nl fun _ _ hq=>?_;(try simp only [lenS] at hq);cbv)|(refine Nm fun _ _=>?_;cbv)|(refine Br.t ?_ ?_;(focus first|assumption|lia);cbv)|(refine Br.f ?_ ?_;(focus first|assumption|lia);cbv)|(refine Br.mk (fun _=>?_) (fun _=>?_)<;>cbv)|(refine Need.mk ?_ ?_;rotate_left;cbv)|(refine R0 ?_;cbv))
    all_goals first
     | exact⟨e1,e2,e3,e4,trivial⟩
     | exact⟨e1,e2,e3,.refl _,trivial⟩
     | exact⟨e1,e2,e3,.refl _,rfl,trivial⟩
     | (exfalso;skip;lia)
     | trace_state
   ·have h2:mk<on:=by simpa using h2
    refine go (fn:=Proofs.Tryz.f20) (n:=43) (rv:=[ResultVar.cell 4 43]) rfl (by decide) rfl (by decide +kernel) rfl rfl (by simp) fun F L C=>?_
    cbv
    (repeat' first|(refine Na ?_ fun _ _=>?_;(focus lia);cbv)|(fail)|(refine Nl fun _ _ hq=>?_;(try simp only [lenS] at hq);cbv)|(refine Nm fun _ _=>?_;cbv)|(refine Br.t ?_ ?_;(focus first|assumption|lia);cbv)|(refine Br.f ?_ ?_;(focus first|assumption|lia);cbv)|(refine Br.mk (fun _=>?_) (fun _=>?_)<;>cbv)|(refine Need.mk ?_ ?_;rotate_left;cbv)|(refine R0 ?_;cbv))
    all_goals first
     | exact⟨e1,e2,e3,e4,trivial⟩
     | exact⟨e1,e2,e3,.refl _,trivial⟩
     | exact⟨e1,e2,e3,.refl _,rfl,trivial⟩
     | (exfalso;skip;lia)
     | trace_state
  ·rw[show foundA ⟨d,rd,mk,l⟩ (.mk ok okey oto odoc ow oh on om olist odocs onews)=⟨0,false,[],[],[],mk,0,findP okey oto om l⟩ from(if_neg h1).trans (if_neg h2)]
   have h2:=not_or.1 h2
   have h3:rd=true:=by simpa using h2.1
   have h4:=h2.2
   subst h3
   have kf:=ifind_fn O l okey oto om hl (by omega) hok
   obtain⟨W,hW⟩:∃ W,W=findP okey oto om l:=⟨_,rfl⟩
   rw[O.h (findP okey oto om),← hW] at kf
   rw[← hW]
   clear h2 hW
   refine go (fn:=Proofs.Tryz.f20) (n:=43) (rv:=[ResultVar.cell 4 43]) rfl (by decide) rfl (by decide +kernel) rfl rfl (by simp) fun F L C=>?_
   cbv
   (repeat' first|(refine Na ?_ fun _ _=>?_;(focus lia);cbv)|(refine CallThen.mk _ _ (C.fn (kf)) ?_;cbv)|(refine Nl fun _ _ hq=>?_;(try simp only [lenS] at hq);cbv)|(refine Nm fun _ _=>?_;cbv)|(refine Br.t ?_ ?_;(focus first|assumption|lia);cbv)|(refine Br.f ?_ ?_;(focus first|assumption|lia);cbv)|(refine Br.mk (fun _=>?_) (fun _=>?_)<;>cbv)|(refine Need.mk ?_ ?_;rotate_left;cbv)|(refine R0 ?_;cbv))
   all_goals first
    | exact⟨e1,e2,e3,e4,trivial⟩
    | exact⟨e1,e2,e3,.refl _,trivial⟩
    | exact⟨e1,e2,e3,.refl _,rfl,trivial⟩
    | (exfalso;clear kf;lia)
    | trace_state
end Go.Sym
