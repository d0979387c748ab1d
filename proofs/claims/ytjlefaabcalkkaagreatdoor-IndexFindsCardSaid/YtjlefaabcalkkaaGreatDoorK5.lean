/- Values and documents: the walks. -/
import Derived.Test.YtjlefaabcalkkaaGreatDoorJ6
import Derived.Test.YtjlefaabcalkkaaGreatDoorK1
set_option linter.all false
set_option linter.unusedVariables false
set_option linter.unusedSimpArgs false
namespace Go.Sym
open Go Go.Proofs.Tryz
set_option maxRecDepth 100000
theorem num_fn (O:Opq) (n:Int):Fn prog 97 [.int .i64 n] [] [.agg (numV n).enc] []:=by
 refine go (fn:=Proofs.Tryz.f97) (n:=4) (rv:=[ResultVar.cell 2 92]) rfl (by decide) rfl (by decide +kernel) rfl rfl (by simp) fun F L C=>?_
 cbv
 (repeat' first|(refine R0 ?_;cbv))
theorem text_fn (O:Opq) (s:ByteArray):Fn prog 100 [.str s] [] [.agg (textV s).enc] []:=by
 refine go (fn:=Proofs.Tryz.f100) (n:=4) (rv:=[ResultVar.cell 2 92]) rfl (by decide) rfl (by decide +kernel) rfl rfl (by simp) fun F L C=>?_
 cbv
 (repeat' first|(refine R0 ?_;cbv))
theorem point_fn (O:Opq) (a b:Int):Fn prog 98 [.int .i64 a,.int .i64 b] [] [.agg (pointV a b).enc] []:=by
 refine go (fn:=Proofs.Tryz.f98) (n:=7) (rv:=[ResultVar.cell 4 92]) rfl (by decide) rfl (by decide +kernel) rfl rfl (by simp) fun F L C=>?_
 cbv
 (repeat' first|(refine R0 ?_;cbv))
theorem part_fn (O:Opq) (a:Int):Fn prog 99 [.int .i64 a] [] [.bool (O.o isPart a)] []:=by
 refine go (fn:=Proofs.Tryz.f99) (n:=8) (rv:=[ResultVar.tmp 2]) rfl (by decide) rfl (by decide +kernel) rfl rfl (by simp) fun F L C=>?_
 cbv
 (repeat' first|(refine Br.mk (fun _=>?_) (fun _=>?_)<;>cbv)|(refine R0 ?_;cbv))
 all_goals(try subst_vars)
 all_goals(try simp only [O.h,natTo,natPred,emp] at *)
 all_goals(try subst_vars)
 all_goals(repeat' apply And.intro)
 all_goals first
  | exact True.intro
  | exact WkR.refl _
  | lia
  | (simp_all [isPart];done)
  | (simp_all [isPart]<;>lia)
  | (grind [isPart])
  | skip
theorem key_fn (O:Opq) (s:ByteArray):Fn prog 38 [.str s] [] [.bool (O.o isKey s)] []:=by
 refine go (fn:=Proofs.Tryz.f38) (n:=10) (rv:=[ResultVar.tmp 2]) rfl (by decide) rfl (by decide +kernel) rfl rfl (by simp) fun F L C=>?_
 cbv
 (repeat' first|(refine Nm fun _ _=>?_;cbv)|(refine Br.mk (fun _=>?_) (fun _=>?_)<;>cbv)|(refine R0 ?_;cbv))
 all_goals(try subst_vars)
 all_goals(try simp only [O.h,natTo,natPred,emp] at *)
 all_goals(try subst_vars)
 all_goals(repeat' apply And.intro)
 all_goals first
  | exact True.intro
  | exact WkR.refl _
  | lia
  | (simp_all [isKey];done)
  | (simp_all [isKey]<;>lia)
  | (grind [isKey])
  | skip
theorem rcheck_fn (O:Opq) (v:Val):Fn prog 66 [.agg v.enc] [] [.int .i64 (O.o Val.err v)] []:=by
 refine go (fn:=Proofs.Tryz.f66) (n:=58) (rv:=[ResultVar.tmp 2]) rfl (by decide) rfl (by decide +kernel) rfl rfl (by simp) fun F L C=>?_
 cbv
 (repeat' first|(refine CallThen.mk _ _ (C.fn (num_fn O _)) ?_;cbv)|(refine CallThen.mk _ _ (C.fn (text_fn O _)) ?_;cbv)|(refine CallThen.mk _ _ (C.fn (point_fn O _ _)) ?_;cbv)|(refine CallThen.bool (C.fn (part_fn O _)) (fun _=>?_) (fun _=>?_)<;>cbv)|(refine Nm fun _ _=>?_;cbv)|(refine Br.mk (fun _=>?_) (fun _=>?_)<;>cbv)|(refine R0 ?_;cbv))
 all_goals(try subst_vars)
 all_goals(try simp only [O.h,natTo,natPred,emp] at *)
 all_goals(try subst_vars)
 all_goals(repeat' apply And.intro)
 all_goals first
  | exact True.intro
  | exact WkR.refl _
  | lia
  | (simp_all [Val.err,Val.Ok,isPart];done)
  | (simp_all [Val.err,Val.Ok,isPart]<;>lia)
  | (grind [Val.err,Val.Ok,isPart])
  | skip
theorem rcheck2_fn (O:Opq) (v:Val):Fn prog 47 [.agg v.enc] [] [.int .i64 (O.o Val.err v)] []:=by
 refine go (fn:=Proofs.Tryz.f47) (n:=80) (rv:=[ResultVar.tmp 2]) rfl (by decide) rfl (by decide +kernel) rfl rfl (by simp) fun F L C=>?_
 cbv
 (repeat' first|(refine Nm fun _ _=>?_;cbv)|(refine Br.t ?_ ?_;(focus first|assumption|lia);cbv)|(refine Br.f ?_ ?_;(focus first|assumption|lia);cbv)|(refine Br.mk (fun _=>?_) (fun _=>?_)<;>cbv)|(refine R0 ?_;cbv))
 all_goals(try subst_vars)
 all_goals(try simp only [O.h,natTo,natPred,emp] at *)
 all_goals(try subst_vars)
 all_goals(repeat' apply And.intro)
 all_goals first
  | exact True.intro
  | exact WkR.refl _
  | lia
  | (simp_all [Val.err,Val.Ok,isPart];done)
  | (simp_all [Val.err,Val.Ok,isPart]<;>lia)
  | (grind [Val.err,Val.Ok,isPart])
  | skip
theorem rpath_fn (O:Opq) (s:ByteArray) (hs:s.size≤9223372036854775807):Fn prog 46 [.str s] [] [.bool (O.o isPath s)] []:=by
 refine go (fn:=Proofs.Tryz.f46) (n:=43) (rv:=[ResultVar.tmp 2]) rfl (by decide) rfl (by decide +kernel) rfl rfl (by simp) fun F L C=>?_
 cbv
 refine LoopThen.mk (C.loopAt [(2,36)] (fun x:Int×Int=>[(2,.bool false),(3,.int .i64 x.1),(4,.int .i64 x.2)]) (fun _=>[]) (fun x=>0≤x.1∧0≤x.2∧x.1≤x.2∧x.2≤s.size∧scan (s.data.toList.drop x.2.toNat) (decide (0<x.1))=scan s.data.toList false) (fun x=>s.size-x.2.toNat) (by decide +kernel) (Start.mk (0,0) [] [] (by simp) (by cbv)) ?_)
 rintro ⟨w,i⟩ ⟨h1,h2,h3,h4,h5⟩
 simp only at h1 h2 h3 h4 h5
 have t1:=fun h=>scan_step (s:=s) h2 h (decide (0<w))
 have t2:=fun h=>scan_end (s:=s) (i:=i) h (decide (0<w))
 cbv
 (repeat' first|(refine Na ?_ fun _ _=>?_;(focus lia);cbv)|(apply Back.of (i:=(_,_)) [] [];focus(cbv;exact⟨rfl,rfl,trivial⟩))|(refine Nm fun _ _=>?_;cbv)|(refine Br.t ?_ ?_;(focus first|assumption|lia);cbv)|(refine Br.f ?_ ?_;(focus first|assumption|lia);cbv)|(refine Br.mk (fun _=>?_) (fun _=>?_)<;>cbv)|(refine Need.mk ?_ ?_;rotate_left;cbv)|(refine R0 ?_;cbv))
 all_goals(try simp only [O.h,natInt,emp] at *)
 all_goals(try simp only [Int.ofNat_eq_natCast] at *)
 all_goals subst_vars
 all_goals(try rw[t1 (by omega)] at h5)<;>(try rw[t2 (by omega)] at h5)
 all_goals clear t1 t2
 all_goals have hw1:0<w+1:=by omega
 all_goals(try have hd:0<w:=by assumption)<;>(try have hd:w≤0:=by omega)
 all_goals simp_all [isPath,isLet]
 all_goals first|omega|grind
end Go.Sym
