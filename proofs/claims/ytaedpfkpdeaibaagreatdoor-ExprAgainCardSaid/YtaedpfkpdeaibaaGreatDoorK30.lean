/- The laws ExprPrints and ExprAgain (walks). -/
import Derived.Test.YtaedpfkpdeaibaaGreatDoorK27
import Derived.Test.YtaedpfkpdeaibaaGreatDoorK29
set_option linter.all false
set_option linter.unusedVariables false
set_option linter.unusedSimpArgs false
namespace Go.Sym
open Go Go.Proofs Go.Proofs.Tryz
set_option maxRecDepth 100000
theorem exprPrints_big (O:Opq) {x:Nd} (hx:NdB 9223372036854775807 x) (hb:3000≤sizeI x 0):Fn prog 6 [.agg (x.en O)] [] [.bool true] []:=by
 have ka:=awake10_fn O
 have k0:=size_fn O hx 0 (by omega) (by omega)
 rw[O.h (sizeI x)] at k0
 obtain⟨Z,hZ⟩:∃ Z,Z=sizeI x 0:=⟨_,rfl⟩
 rw[← hZ] at k0 hb
 clear hx hZ
 obtain⟨k,t,n,l⟩:=x
 refine go (fn:=Proofs.Tryz.f6) (n:=78) (rv:=[ResultVar.tmp 2]) rfl (by decide) rfl (by decide +kernel) rfl rfl (by simp) fun F L C=>?_
 cbv
 (repeat' first|(refine Na ?_ fun _ _=>?_;(focus lia);cbv)|(refine CallThen.mk _ _ (C.fn (ka)) ?_;cbv)|(refine CallThen.mk _ _ (C.fn (k0)) ?_;cbv)|(refine Nl fun _ _ hq=>?_;(try simp only [lenS] at hq);cbv)|(refine Nm fun _ _=>?_;cbv)|(refine Br.t ?_ ?_;(focus first|assumption|lia);cbv)|(refine Br.f ?_ ?_;(focus first|assumption|lia);cbv)|(refine Br.mk (fun _=>?_) (fun _=>?_)<;>cbv)|(refine Need.mk ?_ ?_;rotate_left;cbv)|(refine R0 ?_;cbv))
 all_goals first
  | exact⟨rfl,trivial⟩
  | (exfalso;clear ka k0;lia)
  | trace_state
theorem exprPrints_bad (O:Opq) {x:Nd} (hx:NdB 9223372036854775807 x) (hb:sizeI x 0<3000) (hc:chkE x≠0):Fn prog 6 [.agg (x.en O)] [] [.bool true] []:=by
 have ka:=awake10_fn O
 have k0:=size_fn O hx 0 (by omega) (by omega)
 rw[O.h (sizeI x)] at k0
 have hS:=(sizeI_small x 0 (by omega) hb).1
 have k1:=eprint_bad O hS hc
 have k2:=echeck_fn O hS
 have k3:=rcheck10_fn O hS
 obtain⟨Z,hZ⟩:∃ Z,Z=sizeI x 0:=⟨_,rfl⟩
 obtain⟨C,hC⟩:∃ C,C=chkE x:=⟨_,rfl⟩
 rw[← hZ] at k0 hb
 rw[← hC] at k1 k2 k3 hc
 clear hx hZ hS hC
 obtain⟨k,t,n,l⟩:=x
 refine go (fn:=Proofs.Tryz.f6) (n:=78) (rv:=[ResultVar.tmp 2]) rfl (by decide) rfl (by decide +kernel) rfl rfl (by simp) fun F L C=>?_
 cbv
 (repeat' first|(refine Na ?_ fun _ _=>?_;(focus lia);cbv)|(refine CallThen.mk _ _ (C.fn (ka)) ?_;cbv)|(refine CallThen.mk _ _ (C.fn (k0)) ?_;cbv)|(refine CallThen.mk _ _ (C.fn (k1)) ?_;cbv)|(refine CallThen.mk _ _ (C.fn (k2)) ?_;cbv)|(refine CallThen.mk _ _ (C.fn (k3)) ?_;cbv)|(refine Nl fun _ _ hq=>?_;(try simp only [lenS] at hq);cbv)|(refine Nm fun _ _=>?_;cbv)|(refine Br.t ?_ ?_;(focus first|assumption|lia);cbv)|(refine Br.f ?_ ?_;(focus first|assumption|lia);cbv)|(refine Br.mk (fun _=>?_) (fun _=>?_)<;>cbv)|(refine Need.mk ?_ ?_;rotate_left;cbv)|(refine R0 ?_;cbv))
 all_goals first
  | exact⟨rfl,trivial⟩
  | (exfalso;clear ka k0 k1 k2 k3;lia)
  | trace_state
theorem exprPrints_good (O:Opq) {e:Xp} (he:e.Ok lexE) (hd:deepB 8 e.nd=false) (hx:NdB 9223372036854775807 e.nd) (hb:sizeI e.nd 0<3000):Fn prog 6 [.agg (e.nd.en O)] [] [.bool true] []:=by
 have ka:=awake10_fn O
 have k0:=size_fn O hx 0 (by omega) (by omega)
 rw[O.h (sizeI e.nd)] at k0
 have hS:=(sizeI_small e.nd 0 (by omega) hb).1
 have hc:=made_chk he hd
 have k2:=echeck_fn O hS
 have k3:=rcheck10_fn O hS
 have kt:=(etext_all O he 8 (by omega) hd).1
 have k4:=rtext_all O he 8 (by omega) hd
 have k1:=eprint_good O hS hc kt
 rw[hc] at k2 k3
 have hsz:(ofL e.str).size=e.str.length:=size_ofL _
 by_cases hl:256<e.str.length
 ·replace k1:=k1.1 (by omega)
  obtain⟨Z,hZ⟩:∃ Z,Z=sizeI e.nd 0:=⟨_,rfl⟩
  obtain⟨S,hS⟩:∃ S,S=ofL e.str:=⟨_,rfl⟩
  obtain⟨X,hX⟩:∃ X,X=e.nd:=⟨_,rfl⟩
  obtain⟨L,hL⟩:∃ L,L=e.str.length:=⟨_,rfl⟩
  rw[← hZ] at k0 hb
  rw[← hL] at hsz hl
  rw[← hS] at k4 hsz
  rw[← hX] at k0 k1 k2 k3 k4 ⊢
  clear hx hZ hS hc kt hX hL he hd
  obtain⟨k,t,n,l⟩:=X
  refine go (fn:=Proofs.Tryz.f6) (n:=78) (rv:=[ResultVar.tmp 2]) rfl (by decide) rfl (by decide +kernel) rfl rfl (by simp) fun F L C=>?_
  cbv
  (repeat' first|(refine Na ?_ fun _ _=>?_;(focus lia);cbv)|(refine CallThen.mk _ _ (C.fn (ka)) ?_;cbv)|(refine CallThen.mk _ _ (C.fn (k0)) ?_;cbv)|(refine CallThen.mk _ _ (C.fn (k1)) ?_;cbv)|(refine CallThen.mk _ _ (C.fn (k2)) ?_;cbv)|(refine CallThen.mk _ _ (C.fn (k3)) ?_;cbv)|(refine CallThen.mk _ _ (C.fn (k4)) ?_;cbv)|(refine Nl fun _ _ hq=>?_;(try simp only [lenS] at hq);cbv)|(refine Nm fun _ _=>?_;cbv)|(refine Br.t ?_ ?_;(focus first|assumption|lia);cbv)|(refine Br.f ?_ ?_;(focus first|assumption|lia);cbv)|(refine Br.mk (fun _=>?_) (fun _=>?_)<;>cbv)|(refine Need.mk ?_ ?_;rotate_left;cbv)|(refine R0 ?_;cbv))
  all_goals first
   | exact⟨rfl,trivial⟩
   | (exfalso;clear ka k0 k1 k2 k3 k4;lia)
   | trace_state
 ·replace k1:=k1.2 (by omega)
  have hp:=parse_str he (by omega) hd
  have k5:=eparse_fn O e.str (by omega)
  rw[O.h ofL,O.h parseV,O.h parseE,hp.1,hp.2] at k5
  have hB:NdB 100000 e.nd:=hS.b
  have k6:=esame_fn O hB e.nd
  have k7:=rsame10_fn O hB e.nd
  rw[show sameN e.nd e.nd=true by simp [sameN]] at k6 k7
  obtain⟨Z,hZ⟩:∃ Z,Z=sizeI e.nd 0:=⟨_,rfl⟩
  obtain⟨S,hS⟩:∃ S,S=ofL e.str:=⟨_,rfl⟩
  obtain⟨X,hX⟩:∃ X,X=e.nd:=⟨_,rfl⟩
  obtain⟨L,hL⟩:∃ L,L=e.str.length:=⟨_,rfl⟩
  rw[← hZ] at k0 hb
  rw[← hL] at hsz hl
  rw[← hS] at k1 k4 k5 hsz
  rw[← hX] at k0 k1 k2 k3 k4 k5 k6 k7 ⊢
  clear hx hZ hS hc kt hX hL he hd hB hp
  obtain⟨k,t,n,l⟩:=X
  refine go (fn:=Proofs.Tryz.f6) (n:=78) (rv:=[ResultVar.tmp 2]) rfl (by decide) rfl (by decide +kernel) rfl rfl (by simp) fun F L C=>?_
  cbv
  (repeat' first|(refine Na ?_ fun _ _=>?_;(focus lia);cbv)|(refine CallThen.mk _ _ (C.fn (ka)) ?_;cbv)|(refine CallThen.mk _ _ (C.fn (k0)) ?_;cbv)|(refine CallThen.mk _ _ (C.fn (k1)) ?_;cbv)|(refine CallThen.mk _ _ (C.fn (k2)) ?_;cbv)|(refine CallThen.mk _ _ (C.fn (k3)) ?_;cbv)|(refine CallThen.mk _ _ (C.fn (k4)) ?_;cbv)|(refine CallThen.mk _ _ (C.fn (k5)) ?_;cbv)|(refine CallThen.mk _ _ (C.fn (k6)) ?_;cbv)|(refine CallThen.mk _ _ (C.fn (k7)) ?_;cbv)|(refine Nl fun _ _ hq=>?_;(try simp only [lenS] at hq);cbv)|(refine Nm fun _ _=>?_;cbv)|(refine Br.t ?_ ?_;(focus first|assumption|lia);cbv)|(refine Br.f ?_ ?_;(focus first|assumption|lia);cbv)|(refine Br.mk (fun _=>?_) (fun _=>?_)<;>cbv)|(refine Need.mk ?_ ?_;rotate_left;cbv)|(refine R0 ?_;cbv))
  all_goals first
   | exact⟨rfl,trivial⟩
   | (exfalso;clear ka k0 k1 k2 k3 k4 k5 k6 k7;lia)
   | trace_state
theorem exprPrints_law {n0:Nat} {x0:List PV} (s0:shape prog n0 25 x0):Fn prog 6 [.agg x0] [] [.bool true] []:=by
 obtain⟨x,wx,bx⟩:=shape_nd s0
 rw[Nd.en_eq Opq.id] at wx
 have h:Fn prog 6 [.agg (x.en Opq.id)] [] [.bool true] []:=by
  by_cases h1:3000≤sizeI x 0
  ·exact exprPrints_big Opq.id bx h1
  ·by_cases hc:chkE x=0
   ·obtain⟨e,he,rfl,hd⟩:=chk_made hc
    exact exprPrints_good Opq.id he hd bx (by omega)
   ·exact exprPrints_bad Opq.id bx (by omega) hc
 exact Fn.wkA h (.cons (.agg' ⟨wx.len,fun j x y p q=>.wk (wx.at' j x y p q)⟩) .nil)
theorem exprAgain_long (O:Opq) (S:ByteArray) (hs:1000<S.size):Fn prog 7 [.str S] [] [.bool true] []:=by
 have ka:=awake10_fn O
 refine go (fn:=Proofs.Tryz.f7) (n:=67) (rv:=[ResultVar.tmp 2]) rfl (by decide) rfl (by decide +kernel) rfl rfl (by simp) fun F L C=>?_
 cbv
 (repeat' first|(refine Na ?_ fun _ _=>?_;(focus lia);cbv)|(refine CallThen.mk _ _ (C.fn (ka)) ?_;cbv)|(refine Nl fun _ _ hq=>?_;(try simp only [lenS] at hq);cbv)|(refine Nm fun _ _=>?_;cbv)|(refine Br.t ?_ ?_;(focus first|assumption|lia);cbv)|(refine Br.f ?_ ?_;(focus first|assumption|lia);cbv)|(refine Br.mk (fun _=>?_) (fun _=>?_)<;>cbv)|(refine Need.mk ?_ ?_;rotate_left;cbv)|(refine R0 ?_;cbv))
 all_goals first
  | exact⟨rfl,trivial⟩
  | (exfalso;clear ka;lia)
  | trace_state
theorem exprAgain_fn (O:Opq) (S:ByteArray) (hs:S.size≤1000):Fn prog 7 [.str S] [] [.bool true] []:=by
 have ka:=awake10_fn O
 obtain⟨s,hs0⟩:∃ s,s=S.data.toList:=⟨_,rfl⟩
 have hsz:S.size=s.length:=by rw[hs0,size_list]
 have hS:O.o ofL s=S:=by rw[O.h,hs0,ofL_list]
 have k1:=eparse_fn O s (by omega)
 rw[O.h parseV,O.h parseE,hS] at k1
 by_cases h0:parseE s=0
 ·obtain⟨e,he,hder,hv,hd,hl⟩:=parse_made h0
  rw[h0,hv] at k1
  have hle:e.str.length≤s.length:=(txt_len (L:=lexE) hder).1
  have hsz2:(ofL e.str).size=e.str.length:=size_ofL _
  have kt:=(etext_all O he 8 (by omega) hd).1
  have k2:=(eprint_good O (ok_small he) (made_chk he hd) kt).2 (by omega)
  have hp:=parse_str he (by omega) hd
  have k5:=eparse_fn O e.str (by omega)
  rw[O.h ofL,O.h parseV,O.h parseE,hp.1,hp.2] at k5
  have hB:NdB 100000 e.nd:=(ok_small he).b
  have k6:=esame_fn O hB e.nd
  rw[show sameN e.nd e.nd=true by simp [sameN]] at k6
  obtain⟨T,hT⟩:∃ S,S=ofL e.str:=⟨_,rfl⟩
  obtain⟨X,hX⟩:∃ X,X=e.nd:=⟨_,rfl⟩
  obtain⟨L,hL⟩:∃ L,L=e.str.length:=⟨_,rfl⟩
  obtain⟨M,hM⟩:∃ L,L=s.length:=⟨_,rfl⟩
  rw[← hL] at hsz2 hle
  rw[← hM] at hsz hle
  rw[← hT] at k2 k5 hsz2
  rw[← hX] at k1 k2 k5 k6
  clear hT hX hL hM kt hp he hder hv hd hl h0 hs0 hS hB
  obtain⟨k,t,n,l⟩:=X
  refine go (fn:=Proofs.Tryz.f7) (n:=67) (rv:=[ResultVar.tmp 2]) rfl (by decide) rfl (by decide +kernel) rfl rfl (by simp) fun F L C=>?_
  cbv
  (repeat' first|(refine Br.t rfl ?_;cbv)|(refine Na ?_ fun _ _=>?_;(focus lia);cbv)|(refine CallThen.mk _ _ (C.fn (ka)) ?_;cbv)|(refine CallThen.mk _ _ (C.fn (k1)) ?_;cbv)|(refine CallThen.mk _ _ (C.fn (k2)) ?_;cbv)|(refine CallThen.mk _ _ (C.fn (k5)) ?_;cbv)|(refine CallThen.mk _ _ (C.fn (k6)) ?_;cbv)|(refine Nl fun _ _ hq=>?_;(try simp only [lenS] at hq);cbv)|(refine Nm fun _ _=>?_;cbv)|(refine Br.t ?_ ?_;(focus first|assumption|lia);cbv)|(refine Br.f ?_ ?_;(focus first|assumption|lia);cbv)|(refine Br.mk (fun _=>?_) (fun _=>?_)<;>cbv)|(refine Need.mk ?_ ?_;rotate_left;cbv)|(refine R0 ?_;cbv))
  all_goals first
   | exact⟨rfl,trivial⟩
   | (exfalso;clear ka k1 k2 k5 k6;lia)
   | trace_state
 ·have hz:parseV s=zeroN:=by rw[parseV,if_neg h0]
  rw[hz,zeroN_en,show O.o ofL []=ByteArray.empty by rw[O.h];rfl,Nds.nil O] at k1
  obtain⟨E,hE⟩:∃ E,E=parseE s:=⟨_,rfl⟩
  rw[← hE] at k1 h0
  clear hE hS hs0 hz
  refine go (fn:=Proofs.Tryz.f7) (n:=67) (rv:=[ResultVar.tmp 2]) rfl (by decide) rfl (by decide +kernel) rfl rfl (by simp) fun F L C=>?_
  cbv
  (repeat' first|(refine Na ?_ fun _ _=>?_;(focus lia);cbv)|(refine CallThen.mk _ _ (C.fn (ka)) ?_;cbv)|(refine CallThen.mk _ _ (C.fn (k1)) ?_;cbv)|(refine Nl fun _ _ hq=>?_;(try simp only [lenS] at hq);cbv)|(refine Nm fun _ _=>?_;cbv)|(refine Br.t ?_ ?_;(focus first|assumption|lia);cbv)|(refine Br.f ?_ ?_;(focus first|assumption|lia);cbv)|(refine Br.mk (fun _=>?_) (fun _=>?_)<;>cbv)|(refine Need.mk ?_ ?_;rotate_left;cbv)|(refine R0 ?_;cbv))
  all_goals first
   | exact⟨rfl,trivial⟩
   | (exfalso;clear ka k1;lia)
   | trace_state
theorem exprAgain_law {a0:ByteArray} (_:a0.data.toList.length≤maxLen):Fn prog 7 [.str a0] [] [.bool true] []:=by
 by_cases h:1000<a0.size
 ·exact exprAgain_long Opq.id a0 h
 ·exact exprAgain_fn Opq.id a0 (by omega)
end Go.Sym
