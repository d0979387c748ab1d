/- Where a path stands; what is set. -/
import Derived.Test.YtfdbdalnpdgfmaaGreatDoorK5
set_option linter.all false
set_option linter.unusedVariables false
set_option linter.unusedSimpArgs false
namespace Go.Sym
open Go Go.Proofs.Tryz
set_option maxRecDepth 100000
theorem cmpX_fn (O:Opq) (a b:ByteArray):Fn prog 119 [.str a,.str b] [] [.int .i64 (O.o cmpS a b)] []:=by
 refine .inr ⟨rfl,fun k us _ _ h=>⟨.int .i64 (cmpS a b),?_,by rw[O.h];exact .plain (.int _ _)⟩⟩
 obtain rfl:=repL_str2 h
 rw[run_callFunc_extern (fn:=Proofs.Tryz.f119) rfl (by decide) (by rfl) (by kernel_rfl) (e:=Extern.BytealgCompare.compare) (by kernel_rfl),Lib.run_compareString]
 rfl
theorem cmpB_fn (O:Opq) (a b:ByteArray):Fn prog 87 [.str a,.str b] [] [.int .i64 (O.o cmpS a b)] []:=by
 refine go (fn:=Proofs.Tryz.f87) (n:=6) (rv:=[ResultVar.tmp 4]) rfl (by decide) rfl (by decide +kernel) rfl rfl (by simp) fun F L C=>?_
 cbv
 (repeat' first|(refine Na ?_ fun _ _=>?_;(focus lia);cbv)|(refine CallThen.mk _ _ (C.fn (cmpX_fn O _ _)) ?_;cbv)|(refine Nl fun _ _ hq=>?_;(try simp only [lenS] at hq);cbv)|(refine Nm fun _ _=>?_;cbv)|(refine Br.t ?_ ?_;(focus first|assumption|lia);cbv)|(refine Br.f ?_ ?_;(focus first|assumption|lia);cbv)|(refine Br.mk (fun _=>?_) (fun _=>?_)<;>cbv)|(refine Need.mk ?_ ?_;rotate_left;cbv)|(refine R0 ?_;cbv))
theorem cmp_fn (O:Opq) (a b:ByteArray):Fn prog 65 [.str a,.str b] [] [.int .i64 (O.o cmpS a b)] []:=by
 refine go (fn:=Proofs.Tryz.f65) (n:=6) (rv:=[ResultVar.tmp 4]) rfl (by decide) rfl (by decide +kernel) rfl rfl (by simp) fun F L C=>?_
 cbv
 (repeat' first|(refine Na ?_ fun _ _=>?_;(focus lia);cbv)|(refine CallThen.mk _ _ (C.fn (cmpB_fn O _ _)) ?_;cbv)|(refine Nl fun _ _ hq=>?_;(try simp only [lenS] at hq);cbv)|(refine Nm fun _ _=>?_;cbv)|(refine Br.t ?_ ?_;(focus first|assumption|lia);cbv)|(refine Br.f ?_ ?_;(focus first|assumption|lia);cbv)|(refine Br.mk (fun _=>?_) (fun _=>?_)<;>cbv)|(refine Need.mk ?_ ?_;rotate_left;cbv)|(refine R0 ?_;cbv))
theorem cmpOr_fn (O:Opq) (a b:Int):Fn prog 64 [.sl true 0 false 1 [[.int .i64 a],[.int .i64 b]]] [] [.int .i64 (if a=0 then b else a)] []:=by
 obtain⟨V,eC⟩:∃ V,V=if a=0 then b else a:=⟨_,rfl⟩
 have c1:a=0→V=b:=fun h=>by rw[eC,if_pos h]
 have c2:¬ a=0→V=a:=fun h=>by rw[eC,if_neg h]
 rw[← eC]
 clear eC
 obtain⟨z,hz⟩:∃ z:Nat,z=0:=⟨_,rfl⟩
 refine go (fn:=Proofs.Tryz.f64) (n:=17) (rv:=[ResultVar.tmp 2]) rfl (by decide) rfl (by decide +kernel) rfl rfl (by simp) fun F L C=>?_
 cbv
 (repeat' first|(refine Named.atI (2:Int) rfl ?_;cbv)|(refine Na ?_ fun _ _=>?_;(focus lia);cbv)|(refine Nl fun _ _ hq=>?_;(try simp only [lenS] at hq);cbv)|(refine Nm fun _ _=>?_;cbv)|(refine Br.t ?_ ?_;(focus first|assumption|lia);cbv)|(refine Br.f ?_ ?_;(focus first|assumption|lia);cbv)|(refine Br.mk (fun _=>?_) (fun _=>?_)<;>cbv)|(refine Need.mk ?_ ?_;rotate_left;cbv)|(refine R0 ?_;cbv))
 refine LoopThen.mk (C.loopAt (ι:=Nat) [(2,2),(5,5),(8,16)] (fun k=>[(3,.int .i64 0),(8,.int .i64 k)]) (fun _=>[]) (fun k=>k≤2∧(1≤k→a=0)∧(2≤k→b=0)) (fun k=>2-k) (by decide +kernel) (Start.mk z [] [] ⟨by omega,by omega,by omega⟩ (by cbv;(repeat' apply And.intro)<;>first|exact True.intro|exact WkR.refl _|rfl|lia)) ?_)
 intro k g
 have g1:k≤2:=g.1
 have g2:1≤k→a=0:=g.2.1
 have g3:2≤k→b=0:=g.2.2
 clear g
 match k,g1,g2,g3 with
 | 0,_,_,_ =>
  cbv
  (repeat' first|(refine Na ?_ fun _ _=>?_;(focus lia);cbv)|(refine Ex.mk [.int .i64 a] ⟨by decide,rfl⟩ ?_;cbv)|(refine Back.up [] [] ?_ ?_ fun _ _=>?_;rotate_left 2;cbv;refine And.intro ?_ ?_)|(refine Nl fun _ _ hq=>?_;(try simp only [lenS] at hq);cbv)|(refine Nm fun _ _=>?_;cbv)|(refine Br.t ?_ ?_;(focus first|assumption|lia);cbv)|(refine Br.f ?_ ?_;(focus first|assumption|lia);cbv)|(refine Br.mk (fun _=>?_) (fun _=>?_)<;>cbv)|(refine Need.mk ?_ ?_;rotate_left;cbv)|(refine R0 ?_;cbv))
  all_goals first
   | exact⟨c2 (by assumption),trivial⟩
   | exact⟨(c2 (by assumption)).symm,trivial⟩
   | exact⟨by decide,fun _=>by assumption,fun h=>absurd h (by decide)⟩
   | ((repeat' apply And.intro)<;>first|exact True.intro|exact WkR.refl _|(clear c1 c2;lia))
   | (exfalso;clear c1 c2;lia)
   | trace_state
 | 1,_,g2,_ =>
  have g2:=g2 (by decide)
  cbv
  (repeat' first|(refine Na ?_ fun _ _=>?_;(focus lia);cbv)|(refine Ex.mk [.int .i64 b] ⟨by decide,rfl⟩ ?_;cbv)|(refine Back.up [] [] ?_ ?_ fun _ _=>?_;rotate_left 2;cbv;refine And.intro ?_ ?_)|(refine Nl fun _ _ hq=>?_;(try simp only [lenS] at hq);cbv)|(refine Nm fun _ _=>?_;cbv)|(refine Br.t ?_ ?_;(focus first|assumption|lia);cbv)|(refine Br.f ?_ ?_;(focus first|assumption|lia);cbv)|(refine Br.mk (fun _=>?_) (fun _=>?_)<;>cbv)|(refine Need.mk ?_ ?_;rotate_left;cbv)|(refine R0 ?_;cbv))
  all_goals first
   | exact⟨c1 g2,trivial⟩
   | exact⟨(c1 g2).symm,trivial⟩
   | exact⟨by decide,fun _=>g2,fun _=>by assumption⟩
   | ((repeat' apply And.intro)<;>first|exact True.intro|exact WkR.refl _|(clear c1 c2;lia))
   | (exfalso;clear c1 c2;lia)
   | trace_state
 | 2,_,g2,g3 =>
  have g2:=g2 (by decide)
  have g3:=g3 (by decide)
  have c3:V=0:=(c1 g2).trans g3
  cbv
  (repeat' first|(refine Na ?_ fun _ _=>?_;(focus lia);cbv)|(refine Nl fun _ _ hq=>?_;(try simp only [lenS] at hq);cbv)|(refine Nm fun _ _=>?_;cbv)|(refine Br.t ?_ ?_;(focus first|assumption|lia);cbv)|(refine Br.f ?_ ?_;(focus first|assumption|lia);cbv)|(refine Br.mk (fun _=>?_) (fun _=>?_)<;>cbv)|(refine Need.mk ?_ ?_;rotate_left;cbv)|(refine R0 ?_;cbv))
  all_goals first
   | exact⟨c3,trivial⟩
   | exact⟨c3.symm,trivial⟩
   | (exfalso;lia)
   | trace_state
theorem order_fn (O:Opq) (p q:PairK):Fn prog 48 [.agg p.enc,.agg q.enc] [] [.int .i64 (O.o (ordI p) q)] []:=by
 obtain⟨a,b⟩:=p
 obtain⟨c,d⟩:=q
 have k1:=cmp_fn O a c
 have k2:=cmp_fn O b d
 have h:O.o (ordI ⟨a,b⟩) ⟨c,d⟩=if cmpS a c=0 then cmpS b d else cmpS a c:=by rw[O.h];rfl
 rw[O.h] at k1 k2
 have k3:=cmpOr_fn O (cmpS a c) (cmpS b d)
 rw[← h] at k3
 obtain⟨R,hR⟩:∃ R,R=O.o (ordI ⟨a,b⟩) ⟨c,d⟩:=⟨_,rfl⟩
 obtain⟨A,hA⟩:∃ R,R=cmpS a c:=⟨_,rfl⟩
 obtain⟨B,hB⟩:∃ R,R=cmpS b d:=⟨_,rfl⟩
 rw[← hR] at k3 ⊢
 rw[← hA] at k1 k3
 rw[← hB] at k2 k3
 clear h hR hA hB
 refine go (fn:=Proofs.Tryz.f48) (n:=15) (rv:=[ResultVar.tmp 4]) rfl (by decide) rfl (by decide +kernel) rfl rfl (by simp) fun F L C=>?_
 cbv
 (repeat' first|(refine Na ?_ fun _ _=>?_;(focus lia);cbv)|(refine CallThen.mk _ _ (C.fn (k1)) ?_;cbv)|(refine CallThen.mk _ _ (C.fn (k2)) ?_;cbv)|(refine CallThen.mk _ _ (C.fn (Fn.wkA (k3) ?_)) ?_;(focus((repeat' apply WkAL.cons)<;>first|exact WkAL.nil|exact WkA.refl _|exact WkA.lend rfl|exact WkA.bor rfl (WkR.refl _)|exact WkA.wk (Wk.nil _ _)|exact WkA.wk (Wk.sl' rfl rfl (WkR.refl _))|(refine WkA.agg' ?_;((repeat' apply WkAL.cons)<;>first|exact WkAL.nil|exact WkA.refl _|exact WkA.lend rfl|exact WkA.bor rfl (WkR.refl _)|exact WkA.wk (Wk.nil _ _)|exact WkA.wk (Wk.sl' rfl rfl (WkR.refl _))|(refine WkA.agg' ?_;((repeat' apply WkAL.cons)<;>first|exact WkAL.nil|exact WkA.refl _|exact WkA.lend rfl|exact WkA.bor rfl (WkR.refl _)|exact WkA.wk (Wk.nil _ _)|exact WkA.wk (Wk.sl' rfl rfl (WkR.refl _))))))));cbv)|(refine Nl fun _ _ hq=>?_;(try simp only [lenS] at hq);cbv)|(refine Nm fun _ _=>?_;cbv)|(refine Br.t ?_ ?_;(focus first|assumption|lia);cbv)|(refine Br.f ?_ ?_;(focus first|assumption|lia);cbv)|(refine Br.mk (fun _=>?_) (fun _=>?_)<;>cbv)|(refine Need.mk ?_ ?_;rotate_left;cbv)|(refine R0 ?_;cbv))
 all_goals first
  | exact⟨rfl,trivial⟩
  | trace_state
theorem rsameLW_fn (O:Opq) (d e:Doc) (hd:d.length≤9223372036854775807):Fn prog 21 [.sl true 0 false 6 (O.o Doc.enc d),.sl true 0 false 6 (O.o Doc.enc e)] [] [.bool (O.o sameDoc d e)] []:=by
 have hlen:(O.o Doc.enc d).length=d.length:=by rw[O.h,Doc.enc_len]
 have hlen2:(O.o Doc.enc e).length=e.length:=by rw[O.h,Doc.enc_len]
 obtain⟨N,hN⟩:∃ N:Nat,N=d.length:=⟨_,rfl⟩
 refine go (fn:=Proofs.Tryz.f21) (n:=24) (rv:=[ResultVar.tmp 4]) rfl (by decide) rfl (by decide +kernel) rfl rfl (by simp) fun F L C=>?_
 cbv
 (repeat' first|(refine Na ?_ fun _ _=>?_;(focus lia);cbv)|(refine Nl fun _ _ hq=>?_;(try simp only [lenS] at hq);cbv)|(refine Nm fun _ _=>?_;cbv)|(refine Br.t ?_ ?_;(focus first|assumption|lia);cbv)|(refine Br.f ?_ ?_;(focus first|assumption|lia);cbv)|(refine Br.mk (fun _=>?_) (fun _=>?_)<;>cbv)|(refine Need.mk ?_ ?_;rotate_left;cbv)|(refine R0 ?_;cbv))
 rotate_left
 ·exact⟨by simp only [O.h];exact sameDoc_len (by lia),trivial⟩
 have hl:d.length=e.length:=by lia
 refine LoopThen.mk (C.loopAt (ι:=Nat) [(4,5),(11,25)] (fun k=>[(4,.bool false),(5,.int .i64 k)]) (fun _=>[])
  (fun k=>k≤d.length∧∀ (j:Nat),j<k→d[j]?=e[j]?) (fun k=>N-k) (by decide +kernel) (Start.mk 0 [] [] (by simp) (by cbv;(repeat' apply And.intro)<;>first|exact True.intro|exact WkR.refl _|rfl|lia)) ?_)
 rintro k ⟨h1,h2⟩
 cbv
 (repeat' first|(refine Na ?_ fun _ _=>?_;(focus lia);cbv)|(refine Ex.map O Field.enc rfl ?_ fun _ _=>?_;rotate_left;cbv)|(refine Back.up [] [] ?_ ?_ fun _ _=>?_;rotate_left 2;cbv)|(refine Nl fun _ _ hq=>?_;(try simp only [lenS] at hq);cbv)|(refine Nm fun _ _=>?_;cbv)|(refine Br.t ?_ ?_;(focus first|assumption|lia);cbv)|(refine Br.f ?_ ?_;(focus first|assumption|lia);cbv)|(refine Br.mk (fun _=>?_) (fun _=>?_)<;>cbv)|(refine Need.mk ?_ ?_;rotate_left;cbv)|(refine R0 ?_;cbv))
 all_goals(try subst_vars)
 all_goals(try simp only [O.h,natTo,natPred,emp,fieldCells] at *)
 all_goals(try subst_vars)
 all_goals(repeat' apply And.intro)
 all_goals first
  | exact True.intro
  | exact WkR.refl _
  | lia
  | exact below_step h2 (by grind)
  | exact sameDoc_at (k:=k) (by grind)
  | exact sameDoc_all hl fun j hj=>h2 j (by lia)
theorem rsameW_fn (O:Opq) (d e:Doc) (hd:d.length≤9223372036854775807):Fn prog 21 [.sl false 0 false 6 (O.o Doc.enc d),.sl false 0 false 6 (O.o Doc.enc e)] [] [.bool (O.o sameDoc d e)] [] :=
 (rsameLW_fn O d e hd).wkA (.cons (.lend rfl) (.cons (.lend rfl) .nil))
end Go.Sym
