/- Bits. -/
import Derived.Test.YtaedpfkpdeaibaaGreatDoorK8
import Derived.Test.YtaedpfkpdeaibaaGreatDoorK12
set_option linter.all false
set_option linter.unusedVariables false
set_option linter.unusedSimpArgs false
namespace Go.Sym
open Go
theorem Named.rem {x y:Int} {K:Int→Prop} (h:0≤x∧0<y) (k:∀ n,n=x % y→K n):Named Int (fun _=>x.tmod y) K:=.mk fun n hn=>k n (by
 rw[hn];exact Int.tmod_eq_emod_of_nonneg h.1)
theorem Named.quo {x y:Int} {K:Int→Prop} (h:0≤x∧0<y∧x<9223372036854775808) (k:∀ n,n=x / y→K n):Named Int (fun _=>IntKind.i64.wrap (x.tdiv y)) K:=.mk fun n hn=>k n (by
 have e:x.tdiv y=x / y:=Int.tdiv_eq_ediv_of_nonneg h.1
 have h1:0≤x / y:=Int.ediv_nonneg h.1 (by omega)
 have h2:x / y≤x:=Int.ediv_le_self _ h.1
 rw[hn,e,wrap64 (by omega)])
open Go Go.Proofs.Tryz
set_option maxRecDepth 100000
theorem hasP_fn (O:Opq) (p:ByteArray) (f:Field):Fn prog 76 [.agg f.enc,.ptr 0 0] [.box [.str p]] [.bool (O.o hasP p f)] [.box [.str p]]:=by
 refine go (fn:=Proofs.Tryz.f76) (n:=6) (rv:=[ResultVar.tmp 3]) rfl (by decide) rfl (by decide +kernel) rfl rfl (by simp) fun F L C=>?_
 cbv
 (repeat' first|(refine Na ?_ fun _ _=>?_;(focus lia);cbv)|(refine Nl fun _ _ hq=>?_;(try simp only [lenS] at hq);cbv)|(refine Nm fun _ _=>?_;cbv)|(refine Br.t ?_ ?_;(focus first|assumption|lia);cbv)|(refine Br.f ?_ ?_;(focus first|assumption|lia);cbv)|(refine Br.mk (fun _=>?_) (fun _=>?_)<;>cbv)|(refine Need.mk ?_ ?_;rotate_left;cbv)|(refine R0 ?_;cbv))
 all_goals(try subst_vars)
 all_goals(try simp only [O.h,natTo,natPred,emp] at *)
 all_goals(try subst_vars)
 all_goals(repeat' apply And.intro)
 all_goals first
  | exact True.intro
  | exact WkR.refl _
  | lia
  | (simp_all [hasP];done)
  | (simp_all [hasP]<;>lia)
  | (grind [hasP])
  | skip
theorem getIdx_fn (O:Opq) (d:Doc) (p:ByteArray) (hd:d.length≤1099511627776):Fn prog 75 [.sl false 0 false 6 (O.o Doc.enc d),.fn 76 [] [.ptr 0 0]] [.box [.str p]] [.int .i64 (O.o getI d p)] [.box [.str p]]:=by
 have hlen:(O.o Doc.enc d).length=d.length:=by rw[O.h,Doc.enc_len]
 obtain⟨N,hN⟩:∃ N:Nat,N=d.length:=⟨_,rfl⟩
 refine go (fn:=Proofs.Tryz.f75) (n:=17) (rv:=[ResultVar.tmp 4]) rfl (by decide) rfl (by decide +kernel) rfl rfl (by simp) fun F L C=>?_
 cbv
 (repeat' first|(refine Na ?_ fun _ _=>?_;(focus lia);cbv)|(refine Nl fun _ _ hq=>?_;(try simp only [lenS] at hq);cbv)|(refine Nm fun _ _=>?_;cbv)|(refine Br.t ?_ ?_;(focus first|assumption|lia);cbv)|(refine Br.f ?_ ?_;(focus first|assumption|lia);cbv)|(refine Br.mk (fun _=>?_) (fun _=>?_)<;>cbv)|(refine Need.mk ?_ ?_;rotate_left;cbv)|(refine R0 ?_;cbv))
 refine LoopThen.mk (C.loopAt (ι:=Nat) [(4,5),(8,18)] (fun k=>[(4,.int .i64 0),(8,.int .i64 k)]) (fun _=>[(0,.box [.str p])])
  (fun k=>k≤d.length∧∀ (j:Nat) y,j<k→d[j]?=some y→hasP p y=false) (fun k=>N-k) (by decide +kernel) (Start.mk 0 [] [] (by simp) (by cbv;(repeat' apply And.intro)<;>first|exact True.intro|exact WkR.refl _|rfl|lia)) ?_)
 rintro k ⟨h1,h2⟩
 cbv
 (repeat' first|(refine Na ?_ fun _ _=>?_;(focus lia);cbv)|(refine Ex.map O Field.enc rfl ?_ fun _ _=>?_;rotate_left;cbv)|(refine CallThen.bool (C.fn (hasP_fn O p ⟨_,_,_,_,_,_⟩)) (fun _=>?_) (fun _=>?_)<;>cbv)|(refine Back.up [] [] ?_ ?_ fun _ _=>?_;rotate_left 2;cbv)|(refine Nl fun _ _ hq=>?_;(try simp only [lenS] at hq);cbv)|(refine Nm fun _ _=>?_;cbv)|(refine Br.t ?_ ?_;(focus first|assumption|lia);cbv)|(refine Br.f ?_ ?_;(focus first|assumption|lia);cbv)|(refine Br.mk (fun _=>?_) (fun _=>?_)<;>cbv)|(refine Need.mk ?_ ?_;rotate_left;cbv)|(refine R0 ?_;cbv))
 all_goals(try subst_vars)
 all_goals(try simp only [O.h,natTo,natPred,emp] at *)
 all_goals(try subst_vars)
 all_goals(repeat' apply And.intro)
 all_goals first
  | exact True.intro
  | exact WkR.refl _
  | lia
  | exact findI_at (k:=k) (by assumption) (by assumption) h2
  | exact findI_none fun j y hj=>h2 j y (by lia)
  | exact srch_step h2 (by assumption) (by assumption)
theorem get_fn (O:Opq) (d:Doc) (p:ByteArray) (hd:d.length≤1099511627776):Fn prog 52 [.sl false 0 false 6 (O.o Doc.enc d),.str p] [] [.agg (Val.enc (O.o getV d p)),.bool (O.o getB d p)] []:=by
 have hi:=getB_iff (d:=d) (p:=p)
 have hl:0≤getI d p→getI d p<d.length:=fun h=>by
  obtain⟨x,hx,_⟩:=findI_lt h
  have:=(List.getElem?_eq_some_iff.1 hx).1
  unfold getI at *;omega
 have e1:O.o getI d p=getI d p:=congrFun (congrFun (O.h getI) d) p
 refine go (fn:=Proofs.Tryz.f52) (n:=16) (rv:=[ResultVar.cell 4 37,ResultVar.tmp 5]) rfl (by decide) rfl (by decide +kernel) rfl rfl (by simp) fun F L C=>?_
 cbv
 (repeat' first|(refine Na ?_ fun _ _=>?_;(focus lia);cbv)|(refine CallThen.mk _ _ (C.fn (getIdx_fn O d p hd)) ?_;cbv)|(refine Ex.map O Field.enc rfl ?_ fun _ _=>?_;rotate_left;cbv)|(refine Nl fun _ _ hq=>?_;(try simp only [lenS] at hq);cbv)|(refine Nm fun _ _=>?_;cbv)|(refine Br.t ?_ ?_;(focus first|assumption|lia);cbv)|(refine Br.f ?_ ?_;(focus first|assumption|lia);cbv)|(refine Br.mk (fun _=>?_) (fun _=>?_)<;>cbv)|(refine Need.mk ?_ ?_;rotate_left;cbv)|(refine R0 ?_;cbv))
 all_goals(try subst_vars)
 all_goals(try simp only [O.h,natTo,natPred,emp] at *)
 all_goals(try subst_vars)
 all_goals(repeat' apply And.intro)
 all_goals first
  | exact True.intro
  | lia
  | (rw[getV_none (by assumption)];rfl)
  | (rw[getV_at (by lia) (by assumption)])
  | (cases hb:getB d p<;>simp_all<;>lia)
  | trace_state
theorem rnum_fn (n:Int):Fn prog 84 [.int .i64 n] [] [.agg (numV n).enc] []:=by
 refine go (fn:=Proofs.Tryz.f84) (n:=4) (rv:=[ResultVar.cell 2 37]) rfl (by decide) rfl (by decide +kernel) rfl rfl (by simp) fun F L C=>?_
 cbv
 (repeat' first|(refine Na ?_ fun _ _=>?_;(focus lia);cbv)|(refine Nl fun _ _ hq=>?_;(try simp only [lenS] at hq);cbv)|(refine Nm fun _ _=>?_;cbv)|(refine Br.t ?_ ?_;(focus first|assumption|lia);cbv)|(refine Br.f ?_ ?_;(focus first|assumption|lia);cbv)|(refine Br.mk (fun _=>?_) (fun _=>?_)<;>cbv)|(refine Need.mk ?_ ?_;rotate_left;cbv)|(refine R0 ?_;cbv))
theorem rtext_fn (s:ByteArray):Fn prog 86 [.str s] [] [.agg (textV s).enc] []:=by
 refine go (fn:=Proofs.Tryz.f86) (n:=4) (rv:=[ResultVar.cell 2 37]) rfl (by decide) rfl (by decide +kernel) rfl rfl (by simp) fun F L C=>?_
 cbv
 (repeat' first|(refine Na ?_ fun _ _=>?_;(focus lia);cbv)|(refine Nl fun _ _ hq=>?_;(try simp only [lenS] at hq);cbv)|(refine Nm fun _ _=>?_;cbv)|(refine Br.t ?_ ?_;(focus first|assumption|lia);cbv)|(refine Br.f ?_ ?_;(focus first|assumption|lia);cbv)|(refine Br.mk (fun _=>?_) (fun _=>?_)<;>cbv)|(refine Need.mk ?_ ?_;rotate_left;cbv)|(refine R0 ?_;cbv))
theorem rpoint_fn (x y:Int):Fn prog 87 [.agg [.int .i64 x,.int .i64 y]] [] [.agg (pointV x y).enc] []:=by
 refine go (fn:=Proofs.Tryz.f87) (n:=4) (rv:=[ResultVar.cell 2 37]) rfl (by decide) rfl (by decide +kernel) rfl rfl (by simp) fun F L C=>?_
 cbv
 (repeat' first|(refine Na ?_ fun _ _=>?_;(focus lia);cbv)|(refine Nl fun _ _ hq=>?_;(try simp only [lenS] at hq);cbv)|(refine Nm fun _ _=>?_;cbv)|(refine Br.t ?_ ?_;(focus first|assumption|lia);cbv)|(refine Br.f ?_ ?_;(focus first|assumption|lia);cbv)|(refine Br.mk (fun _=>?_) (fun _=>?_)<;>cbv)|(refine Need.mk ?_ ?_;rotate_left;cbv)|(refine R0 ?_;cbv))
theorem rmay_fn (x y:Int):Fn prog 126 [.agg [.int .i64 x,.int .i64 y]] [] [.bool (gOk x y)] []:=by
 obtain⟨B,hB⟩:∃ B,B=gOk x y:=⟨_,rfl⟩
 have hi:B=true ↔ -1048576≤x∧x≤1048576∧-1048576≤y∧y≤1048576:=by rw[hB];exact gOk_iff
 rw[← hB]
 clear hB
 cases B
 ·have hi:¬ (-1048576≤x∧x≤1048576∧-1048576≤y∧y≤1048576):=fun q=>by cases hi.2 q
  refine go (fn:=Proofs.Tryz.f126) (n:=20) (rv:=[ResultVar.tmp 2]) rfl (by decide) rfl (by decide +kernel) rfl rfl (by simp) fun F L C=>?_
  cbv
  (repeat' first|(refine Na ?_ fun _ _=>?_;(focus lia);cbv)|(refine Nl fun _ _ hq=>?_;(try simp only [lenS] at hq);cbv)|(refine Nm fun _ _=>?_;cbv)|(refine Br.t ?_ ?_;(focus first|assumption|lia);cbv)|(refine Br.f ?_ ?_;(focus first|assumption|lia);cbv)|(refine Br.mk (fun _=>?_) (fun _=>?_)<;>cbv)|(refine Need.mk ?_ ?_;rotate_left;cbv)|(refine R0 ?_;cbv))
  all_goals first
   | exact⟨rfl,trivial⟩
   | (exfalso;lia)
   | trace_state
 ·have hi:(-1048576≤x∧x≤1048576∧-1048576≤y∧y≤1048576):=hi.1 rfl
  refine go (fn:=Proofs.Tryz.f126) (n:=20) (rv:=[ResultVar.tmp 2]) rfl (by decide) rfl (by decide +kernel) rfl rfl (by simp) fun F L C=>?_
  cbv
  (repeat' first|(refine Na ?_ fun _ _=>?_;(focus lia);cbv)|(refine Nl fun _ _ hq=>?_;(try simp only [lenS] at hq);cbv)|(refine Nm fun _ _=>?_;cbv)|(refine Br.t ?_ ?_;(focus first|assumption|lia);cbv)|(refine Br.f ?_ ?_;(focus first|assumption|lia);cbv)|(refine Br.mk (fun _=>?_) (fun _=>?_)<;>cbv)|(refine Need.mk ?_ ?_;rotate_left;cbv)|(refine R0 ?_;cbv))
  all_goals first
   | exact⟨rfl,trivial⟩
   | (exfalso;lia)
   | trace_state
theorem ras_n (n:Int):Fn prog 109 [.agg (numV n).enc] [] [.agg [.int .i64 n,.int .i64 0],.bool (gOk n 0)] []:=by
 have k:=rmay_fn n 0
 obtain⟨B,hB⟩:∃ B,B=gOk n 0:=⟨_,rfl⟩
 rw[← hB] at k ⊢
 clear hB
 refine go (fn:=Proofs.Tryz.f109) (n:=18) (rv:=[ResultVar.cell 2 35,ResultVar.tmp 3]) rfl (by decide) rfl (by decide +kernel) rfl rfl (by simp) fun F L C=>?_
 cbv
 (repeat' first|(refine Na ?_ fun _ _=>?_;(focus lia);cbv)|(refine CallThen.mk _ _ (C.fn (k)) ?_;cbv)|(refine Nl fun _ _ hq=>?_;(try simp only [lenS] at hq);cbv)|(refine Nm fun _ _=>?_;cbv)|(refine Br.t ?_ ?_;(focus first|assumption|lia);cbv)|(refine Br.f ?_ ?_;(focus first|assumption|lia);cbv)|(refine Br.mk (fun _=>?_) (fun _=>?_)<;>cbv)|(refine Need.mk ?_ ?_;rotate_left;cbv)|(refine R0 ?_;cbv))
 all_goals first
  | exact⟨rfl,rfl,rfl,trivial⟩
  | exact⟨rfl,rfl,trivial⟩
  | trace_state
theorem ras_p (x y:Int):Fn prog 109 [.agg (pointV x y).enc] [] [.agg [.int .i64 x,.int .i64 y],.bool true] []:=by
 refine go (fn:=Proofs.Tryz.f109) (n:=18) (rv:=[ResultVar.cell 2 35,ResultVar.tmp 3]) rfl (by decide) rfl (by decide +kernel) rfl rfl (by simp) fun F L C=>?_
 cbv
 (repeat' first|(refine Na ?_ fun _ _=>?_;(focus lia);cbv)|(refine Nl fun _ _ hq=>?_;(try simp only [lenS] at hq);cbv)|(refine Nm fun _ _=>?_;cbv)|(refine Br.t ?_ ?_;(focus first|assumption|lia);cbv)|(refine Br.f ?_ ?_;(focus first|assumption|lia);cbv)|(refine Br.mk (fun _=>?_) (fun _=>?_)<;>cbv)|(refine Need.mk ?_ ?_;rotate_left;cbv)|(refine R0 ?_;cbv))
 all_goals first
  | exact⟨rfl,rfl,trivial⟩
  | (exfalso;lia)
  | trace_state
theorem ras_t (s:ByteArray):Fn prog 109 [.agg (textV s).enc] [] [.agg [.int .i64 0,.int .i64 0],.bool false] []:=by
 refine go (fn:=Proofs.Tryz.f109) (n:=18) (rv:=[ResultVar.cell 2 35,ResultVar.tmp 3]) rfl (by decide) rfl (by decide +kernel) rfl rfl (by simp) fun F L C=>?_
 cbv
 (repeat' first|(refine Na ?_ fun _ _=>?_;(focus lia);cbv)|(refine Nl fun _ _ hq=>?_;(try simp only [lenS] at hq);cbv)|(refine Nm fun _ _=>?_;cbv)|(refine Br.t ?_ ?_;(focus first|assumption|lia);cbv)|(refine Br.f ?_ ?_;(focus first|assumption|lia);cbv)|(refine Br.mk (fun _=>?_) (fun _=>?_)<;>cbv)|(refine Need.mk ?_ ?_;rotate_left;cbv)|(refine R0 ?_;cbv))
 all_goals first
  | exact⟨rfl,rfl,trivial⟩
  | exact trivial
  | (exfalso;lia)
  | trace_state
theorem rmul03_fn {a b c d e f:Int} (h:gOk a b=true) (k:gOk c d=true) (he:e=a * c-b * d) (hf:f=a * d+b * c):Fn prog 110 [.agg [.int .i64 a,.int .i64 b],.agg [.int .i64 c,.int .i64 d]] [] [.agg [.int .i64 e,.int .i64 f]] []:=by
 obtain⟨a1,a2,b1,b2⟩:=gOk_iff.1 h
 obtain⟨c1,c2,d1,d2⟩:=gOk_iff.1 k
 have e1:=mul_bound a1 a2 c1 c2
 have e2:=mul_bound b1 b2 d1 d2
 have e3:=mul_bound a1 a2 d1 d2
 have e4:=mul_bound b1 b2 c1 c2
 obtain⟨p1,h1⟩:∃ p,p=a * c:=⟨_,rfl⟩
 obtain⟨p2,h2⟩:∃ p,p=b * d:=⟨_,rfl⟩
 obtain⟨p3,h3⟩:∃ p,p=a * d:=⟨_,rfl⟩
 obtain⟨p4,h4⟩:∃ p,p=b * c:=⟨_,rfl⟩
 rw[← h1] at e1 he
 rw[← h2] at e2 he
 rw[← h3] at e3 hf
 rw[← h4] at e4 hf
 have n1:p1=IntKind.i64.wrap (a * c):=by rw[← h1,wrap64 (by omega)]
 have n2:p2=IntKind.i64.wrap (b * d):=by rw[← h2,wrap64 (by omega)]
 have n3:p3=IntKind.i64.wrap (a * d):=by rw[← h3,wrap64 (by omega)]
 have n4:p4=IntKind.i64.wrap (b * c):=by rw[← h4,wrap64 (by omega)]
 have n5:e=IntKind.i64.wrap (p1-p2):=by rw[← he,wrap64 (by omega)]
 have n6:f=IntKind.i64.wrap (p3+p4):=by rw[← hf,wrap64 (by omega)]
 clear h k h1 h2 h3 h4 he hf
 refine go (fn:=Proofs.Tryz.f110) (n:=26) (rv:=[ResultVar.cell 4 35]) rfl (by decide) rfl (by decide +kernel) rfl rfl (by simp) fun F L C=>?_
 cbv
 (repeat' first|(refine Named.atG p1 n1 ?_;cbv)|(refine Named.atG p2 n2 ?_;cbv)|(refine Named.atG p3 n3 ?_;cbv)|(refine Named.atG p4 n4 ?_;cbv)|(refine Named.atG e n5 ?_;cbv)|(refine Named.atG f n6 ?_;cbv)|(refine Na ?_ fun _ _=>?_;(focus lia);cbv)|(refine Nl fun _ _ hq=>?_;(try simp only [lenS] at hq);cbv)|(refine Nm fun _ _=>?_;cbv)|(refine Br.t ?_ ?_;(focus first|assumption|lia);cbv)|(refine Br.f ?_ ?_;(focus first|assumption|lia);cbv)|(refine Br.mk (fun _=>?_) (fun _=>?_)<;>cbv)|(refine Need.mk ?_ ?_;rotate_left;cbv)|(refine R0 ?_;cbv))
 all_goals first
  | exact⟨rfl,rfl,trivial⟩
  | trace_state
theorem rnorm03_fn {a b e:Int} (h:gOk a b=true) (he:e=a * a+b * b):Fn prog 111 [.agg [.int .i64 a,.int .i64 b]] [] [.int .i64 e] []:=by
 obtain⟨a1,a2,b1,b2⟩:=gOk_iff.1 h
 have e1:=mul_bound a1 a2 a1 a2
 have e2:=mul_bound b1 b2 b1 b2
 obtain⟨p1,h1⟩:∃ p,p=a * a:=⟨_,rfl⟩
 obtain⟨p2,h2⟩:∃ p,p=b * b:=⟨_,rfl⟩
 rw[← h1] at e1 he
 rw[← h2] at e2 he
 have n1:p1=IntKind.i64.wrap (a * a):=by rw[← h1,wrap64 (by omega)]
 have n2:p2=IntKind.i64.wrap (b * b):=by rw[← h2,wrap64 (by omega)]
 have n5:e=IntKind.i64.wrap (p1+p2):=by rw[← he,wrap64 (by omega)]
 clear h h1 h2 he
 refine go (fn:=Proofs.Tryz.f111) (n:=13) (rv:=[ResultVar.tmp 2]) rfl (by decide) rfl (by decide +kernel) rfl rfl (by simp) fun F L C=>?_
 cbv
 (repeat' first|(refine Named.atG p1 n1 ?_;cbv)|(refine Named.atG p2 n2 ?_;cbv)|(refine Named.atG e n5 ?_;cbv)|(refine Na ?_ fun _ _=>?_;(focus lia);cbv)|(refine Nl fun _ _ hq=>?_;(try simp only [lenS] at hq);cbv)|(refine Nm fun _ _=>?_;cbv)|(refine Br.t ?_ ?_;(focus first|assumption|lia);cbv)|(refine Br.f ?_ ?_;(focus first|assumption|lia);cbv)|(refine Br.mk (fun _=>?_) (fun _=>?_)<;>cbv)|(refine Need.mk ?_ ?_;rotate_left;cbv)|(refine R0 ?_;cbv))
 all_goals first
  | exact⟨rfl,trivial⟩
  | trace_state
theorem rget_fn (O:Opq) (d:Doc) (p:ByteArray) (hd:d.length≤1099511627776):Fn prog 83 [.sl false 0 false 6 (O.o Doc.enc d),.str p] [] [.int .i64 (O.o getI d p)] []:=by
 have hlen:(O.o Doc.enc d).length=d.length:=by rw[O.h,Doc.enc_len]
 obtain⟨N,hN⟩:∃ N:Nat,N=d.length:=⟨_,rfl⟩
 refine go (fn:=Proofs.Tryz.f83) (n:=18) (rv:=[ResultVar.tmp 4]) rfl (by decide) rfl (by decide +kernel) rfl rfl (by simp) fun F L C=>?_
 cbv
 (repeat' first|(refine Na ?_ fun _ _=>?_;(focus lia);cbv)|(refine Nl fun _ _ hq=>?_;(try simp only [lenS] at hq);cbv)|(refine Nm fun _ _=>?_;cbv)|(refine Br.t ?_ ?_;(focus first|assumption|lia);cbv)|(refine Br.f ?_ ?_;(focus first|assumption|lia);cbv)|(refine Br.mk (fun _=>?_) (fun _=>?_)<;>cbv)|(refine Need.mk ?_ ?_;rotate_left;cbv)|(refine R0 ?_;cbv))
 refine LoopThen.mk (C.loopAt (ι:=Nat) [(4,19)] (fun k=>[(4,.int .i64 0),(5,.int .i64 k)]) (fun _=>[])
  (fun k=>k≤d.length∧∀ (j:Nat) y,j<k→d[j]?=some y→hasP p y=false) (fun k=>N-k) (by decide +kernel) (Start.mk 0 [] [] (by simp) (by cbv;(repeat' apply And.intro)<;>first|exact True.intro|exact WkR.refl _|rfl|lia)) ?_)
 rintro k ⟨h1,h2⟩
 cbv
 (repeat' first|(refine Na ?_ fun _ _=>?_;(focus lia);cbv)|(refine Ex.map O Field.enc rfl ?_ fun _ _=>?_;rotate_left;cbv)|(refine Back.up [] [] ?_ ?_ fun _ _=>?_;rotate_left 2;cbv)|(refine Nl fun _ _ hq=>?_;(try simp only [lenS] at hq);cbv)|(refine Nm fun _ _=>?_;cbv)|(refine Br.t ?_ ?_;(focus first|assumption|lia);cbv)|(refine Br.f ?_ ?_;(focus first|assumption|lia);cbv)|(refine Br.mk (fun _=>?_) (fun _=>?_)<;>cbv)|(refine Need.mk ?_ ?_;rotate_left;cbv)|(refine R0 ?_;cbv))
 all_goals(try subst_vars)
 all_goals(try simp only [O.h,natTo,natPred,emp] at *)
 all_goals(try subst_vars)
 all_goals(repeat' apply And.intro)
 all_goals first
  | exact True.intro
  | exact WkR.refl _
  | lia
  | exact findI_at (k:=k) (by assumption) (by simp_all [hasP]) h2
  | exact findI_none fun j y hj=>h2 j y (by lia)
  | exact srch_step h2 (by assumption) (by simp_all [hasP])
def envM (m:Nat→List Mode):Env:={ ty:=fun t=>tyOf t,mode:=m }
theorem hEM (m:Nat→List Mode):EnvOk prog (envM m):=env_ok (by rfl) ty_ok
def modeOf (f:Nat) (l:List Mode):Nat→List Mode:=fun g=>match Nat.beq g f with
 | true=>l
 | false=>env.mode g
structure CtxM (m:Nat→List Mode) (n0:Nat) (F:FnT) (L:LpT):Prop where
 fn:∀ {f args H res H'},Fn prog f args H res H'→F f args H res H'
 loop:∀ {ι:Type} (S:ι→ASt) (I:ι→Prop) (μ:ι→Nat) {b:Code} {st:ASt} {K:AEx→ASt→Prop},regOk b=true→Start S I n0 st→(∀ i,I i→cw (envM m) F L b (S i) (bodyK S I μ n0 i K))→noScope b=true→L b st K
theorem CtxM.loopAt {m:Nat→List Mode} {n0:Nat} {F:FnT} {L:LpT} (C:CtxM m n0 F L) {ι:Type} {b:Code} {st:ASt} {K:AEx→ASt→Prop} (rs:List (Nat×Nat)) (us:ι→List (Nat×PV)) (h:ι→Heap) (I:ι→Prop) (μ:ι→Nat) (hr:regOk b=true)
  (start:Start (fun i=>⟨sets (resets st.tmps rs) (us i),h i⟩) I n0 st) (body:∀ i,I i→cw (envM m) F L b ⟨sets (resets st.tmps rs) (us i),h i⟩ (bodyK (fun i=>⟨sets (resets st.tmps rs) (us i),h i⟩) I μ n0 i K)) (hb:noScope b=true:=by rfl):L b st K :=
 C.loop _ I μ hr start body hb
theorem goM (m : Nat → List Mode) {f : Nat} {fn : Func} {code : Code} {args res : List PV} {H H' : List Sym.Obj} {n : Nat} {rv : List ResultVar} (hf : prog.funcs[f]? = some fn) (hname : fn.name ≠ "runtime.NumGoroutine") (hb : fn.body = some code) (hr : regOk code = true)
    (hn : fn.ntmps - args.length = n) (hrv : fn.results.toList = rv) (h64 : H.length ≤ 64) (h : ∀ F L, CtxM m H.length F L → cw (envM m) F L code ⟨args ++ tops n, heapOf 0 H⟩ (retK (envM m) rv H.length res H')) : Fn prog f args H res H' :=
  .inl (fnB_of_cw (hEM m) hm hf hname hb hr hn hrv fun fc hfc => h _ _ ⟨fun h => h, fun S I μ _ _ _ hr start body hb => loop_rule S I μ (hEM m) (by omega) hm hfc hr start body hb⟩)
open Go Go.Proofs Go.Proofs.Tryz
set_option maxRecDepth 10000
theorem shape_str {n:Nat} {xs:List PV} (h:shape prog n 9 xs):∃ s:ByteArray,xs=[.str s]∧s.size≤9223372036854775807:=by
 cases n with
 | zero=>exact h.elim
 | succ n=>simp only [shape,Tryz.underlying9] at h;exact h
theorem shape_int {n:Nat} {xs:List PV} (h:shape prog n 3 xs):∃ m:Int,xs=[.int .i64 m]∧-9223372036854775808≤m∧m≤9223372036854775807:=by
 cases n with
 | zero=>exact h.elim
 | succ n =>
  simp only [shape,Tryz.underlying3] at h
  obtain⟨m,rfl,hm⟩:=h
  refine⟨m,rfl,?_⟩
  simp only [Lit.wf,Bool.and_eq_true,decide_eq_true_eq] at hm
  exact hm
def inI (m:Int):Prop:=-9223372036854775808≤m∧m≤9223372036854775807
def inStr (s:ByteArray):Prop:=s.size≤9223372036854775807
theorem c3:prog.cellsOf 3=1:=by decide +kernel
theorem c9:prog.cellsOf 9=1:=by decide +kernel
theorem rows_of {α:Type} {e:α→List PV} {In:α→Prop} {Q:List PV→Prop} (hq:∀ r,Q r→∃ a,r=e a∧In a):∀ {rows:List (List PV)},(∀ r∈rows,Q r)→∃ l:List α,rows=l.map e∧∀ a∈l,In a
 | [],_=>⟨[],rfl,by simp⟩
 | r::rows,h=>by
  obtain⟨a,ha,ia⟩:=hq r (h r (by simp))
  obtain⟨l,hl,il⟩:=rows_of (rows:=rows) hq fun r hr=>h r (List.mem_cons_of_mem _ hr)
  exact⟨a::l,by simp [ha,hl],by simpa using⟨ia,il⟩⟩
end Go.Sym
