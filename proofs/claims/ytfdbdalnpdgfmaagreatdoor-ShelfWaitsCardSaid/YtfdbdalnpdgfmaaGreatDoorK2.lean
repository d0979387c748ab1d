/- Values and documents: the walks. -/
import Derived.Test.YtfdbdalnpdgfmaaGreatDoorK1
set_option linter.all false
set_option linter.unusedVariables false
set_option linter.unusedSimpArgs false
namespace Go.Sym
open Go Go.Proofs.Tryz
set_option maxRecDepth 100000
theorem key_fn (O:Opq) (s:ByteArray):Fn prog 32 [.str s] [] [.bool (O.o isKey s)] []:=by
 refine go (fn:=Proofs.Tryz.f32) (n:=10) (rv:=[ResultVar.tmp 2]) rfl (by decide) rfl (by decide +kernel) rfl rfl (by simp) fun F L C=>?_
 cbv
 (repeat' first|(refine Na ?_ fun _ _=>?_;(focus lia);cbv)|(refine Nl fun _ _ hq=>?_;(try simp only [lenS] at hq);cbv)|(refine Nm fun _ _=>?_;cbv)|(refine Br.t ?_ ?_;(focus first|assumption|lia);cbv)|(refine Br.f ?_ ?_;(focus first|assumption|lia);cbv)|(refine Br.mk (fun _=>?_) (fun _=>?_)<;>cbv)|(refine Need.mk ?_ ?_;rotate_left;cbv)|(refine R0 ?_;cbv))
 all_goals(try subst_vars)
 all_goals(try simp only [O.h,natTo,natPred,emp] at *)
 all_goals(try subst_vars)
 all_goals(repeat' apply And.intro)
 all_goals first
  | exact True.intro
  | exact WkR.refl _
  | lia
  | (simp_all [isKey];done)
  | (simp_all [isKey]<;>lia)
  | (grind [isKey])
  | skip
theorem rpath_fn (O:Opq) (s:ByteArray) (hs:s.size≤9223372036854775807):Fn prog 47 [.str s] [] [.bool (O.o isPath s)] []:=by
 refine go (fn:=Proofs.Tryz.f47) (n:=43) (rv:=[ResultVar.tmp 2]) rfl (by decide) rfl (by decide +kernel) rfl rfl (by simp) fun F L C=>?_
 cbv
 refine LoopThen.mk (C.loopAt [(2,36)] (fun x:Int×Int=>[(2,.bool false),(3,.int .i64 x.1),(4,.int .i64 x.2)]) (fun _=>[]) (fun x=>0≤x.1∧0≤x.2∧x.1≤x.2∧x.2≤s.size∧scan (s.data.toList.drop x.2.toNat) (decide (0<x.1))=scan s.data.toList false) (fun x=>s.size-x.2.toNat) (by decide +kernel) (Start.mk (0,0) [] [] (by simp) (by cbv)) ?_)
 rintro ⟨w,i⟩ ⟨h1,h2,h3,h4,h5⟩
 simp only at h1 h2 h3 h4 h5
 have t1:=fun h=>scan_step (s:=s) h2 h (decide (0<w))
 have t2:=fun h=>scan_end (s:=s) (i:=i) h (decide (0<w))
 cbv
 (repeat' first|(refine Na ?_ fun _ _=>?_;(focus lia);cbv)|(apply Back.of (i:=(_,_)) [] [];focus(cbv;exact⟨rfl,rfl,trivial⟩))|(refine Nl fun _ _ hq=>?_;(try simp only [lenS] at hq);cbv)|(refine Nm fun _ _=>?_;cbv)|(refine Br.t ?_ ?_;(focus first|assumption|lia);cbv)|(refine Br.f ?_ ?_;(focus first|assumption|lia);cbv)|(refine Br.mk (fun _=>?_) (fun _=>?_)<;>cbv)|(refine Need.mk ?_ ?_;rotate_left;cbv)|(refine R0 ?_;cbv))
 all_goals(try simp only [O.h,natInt,emp] at *)
 all_goals(try simp only [Int.ofNat_eq_natCast] at *)
 all_goals subst_vars
 all_goals(try rw[t1 (by omega)] at h5)<;>(try rw[t2 (by omega)] at h5)
 all_goals clear t1 t2
 all_goals have hw1:0<w+1:=by omega
 all_goals(try have hd:0<w:=by assumption)<;>(try have hd:w≤0:=by omega)
 all_goals simp_all [isPath,isLet]
 all_goals first|omega|grind
end Go.Sym
