/- Points: the walks. -/
import Derived.Test.YtaedpfkpdeaibaaGreatDoorJ6
import Derived.Test.YtaedpfkpdeaibaaGreatDoorK1
set_option linter.all false
set_option linter.unusedVariables false
set_option linter.unusedSimpArgs false
namespace Go.Sym
open Go Go.Proofs.Tryz
set_option maxRecDepth 100000
theorem gcheck_fn (O:Opq) (a b:Int):Fn prog 105 [.agg [.int .i64 a,.int .i64 b]] [] [.int .i64 (O.o gErr a b)] []:=by
 refine go (fn:=Proofs.Tryz.f105) (n:=20) (rv:=[ResultVar.tmp 2]) rfl (by decide) rfl (by decide +kernel) rfl rfl (by simp) fun F L C=>?_
 cbv
 (repeat' first|(refine Na ?_ fun _ _=>?_;(focus lia);cbv)|(refine Nl fun _ _ hq=>?_;(try simp only [lenS] at hq);cbv)|(refine Nm fun _ _=>?_;cbv)|(refine Br.t ?_ ?_;(focus first|assumption|lia);cbv)|(refine Br.f ?_ ?_;(focus first|assumption|lia);cbv)|(refine Br.mk (fun _=>?_) (fun _=>?_)<;>cbv)|(refine Need.mk ?_ ?_;rotate_left;cbv)|(refine R0 ?_;cbv))
 all_goals(try subst_vars)
 all_goals(try simp only [O.h,natTo,natPred,emp] at *)
 all_goals(try subst_vars)
 all_goals(repeat' apply And.intro)
 all_goals first
  | exact True.intro
  | exact WkR.refl _
  | lia
  | (simp_all [gErr,gOk];done)
  | (simp_all [gErr,gOk]<;>lia)
  | (grind [gErr,gOk])
  | skip
theorem gof_fn {a b:Int} (h1:okF a) (h2:okF b):Fn prog 106 [.agg [.int .i64 a,.int .i64 b]] [] [.cx a b] []:=by
 refine go (fn:=Proofs.Tryz.f106) (n:=9) (rv:=[ResultVar.tmp 2]) rfl (by decide) rfl (by decide +kernel) rfl rfl (by simp) fun F L C=>?_
 cbv
 (repeat' first|(refine Na ?_ fun _ _=>?_;(focus lia);cbv)|(refine Nl fun _ _ hq=>?_;(try simp only [lenS] at hq);cbv)|(refine Nm fun _ _=>?_;cbv)|(refine Br.t ?_ ?_;(focus first|assumption|lia);cbv)|(refine Br.f ?_ ?_;(focus first|assumption|lia);cbv)|(refine Br.mk (fun _=>?_) (fun _=>?_)<;>cbv)|(refine Need.mk ?_ ?_;rotate_left;cbv)|(refine R0 ?_;cbv))
 all_goals first
  | assumption
  | exact⟨rfl,rfl,trivial⟩
  | trace_state
theorem gpoint_fn {a b:Int} (h1:okF a) (h2:okF b):Fn prog 107 [.cx a b] [] [.agg [.int .i64 a,.int .i64 b]] []:=by
 have h1:-9007199254740992<a∧a<9007199254740992:=h1
 have h2:-9007199254740992<b∧b<9007199254740992:=h2
 refine go (fn:=Proofs.Tryz.f107) (n:=9) (rv:=[ResultVar.cell 2 35]) rfl (by decide) rfl (by decide +kernel) rfl rfl (by simp) fun F L C=>?_
 cbv
 (repeat' first|(refine Na ?_ fun _ _=>?_;(focus lia);cbv)|(refine Nl fun _ _ hq=>?_;(try simp only [lenS] at hq);cbv)|(refine Nm fun _ _=>?_;cbv)|(refine Br.t ?_ ?_;(focus first|assumption|lia);cbv)|(refine Br.f ?_ ?_;(focus first|assumption|lia);cbv)|(refine Br.mk (fun _=>?_) (fun _=>?_)<;>cbv)|(refine Need.mk ?_ ?_;rotate_left;cbv)|(refine R0 ?_;cbv))
 all_goals first
  | exact⟨rfl,rfl,trivial⟩
  | exact⟨by rw[show IntKind.i64.min=-9223372036854775808 from rfl];omega,by rw[show IntKind.i64.max=9223372036854775807 from rfl];omega⟩
  | trace_state
theorem gcheck_ok {a b:Int} (h:gOk a b=true):Fn prog 105 [.agg [.int .i64 a,.int .i64 b]] [] [.int .i64 0] []:=by
 have:=gcheck_fn Opq.id a b
 rwa [Opq.id.h,gErr_ok h] at this
theorem gcheck_bad {a b:Int} (h:¬ gOk a b=true):Fn prog 105 [.agg [.int .i64 a,.int .i64 b]] [] [.int .i64 1] []:=by
 have:=gcheck_fn Opq.id a b
 rwa [Opq.id.h,gErr_bad h] at this
theorem Named.atG {α:Type} {x:Unit→α} {K:α→Prop} (v:α) (h:v=x ()) (k:K v):Named α x K:=.mk fun n e=>by rw[e,← h];exact k
theorem both_a {a1 a2 b1 b2 c1 c2:Int} (h:¬ gOk a1 a2=true):Fn prog 108 [.agg [.int .i64 a1,.int .i64 a2],.agg [.int .i64 b1,.int .i64 b2],.agg [.int .i64 c1,.int .i64 c2]] [] [.int .i64 1] []:=by
 have k:=gcheck_bad h
 refine go (fn:=Proofs.Tryz.f108) (n:=17) (rv:=[ResultVar.tmp 6]) rfl (by decide) rfl (by decide +kernel) rfl rfl (by simp) fun F L C=>?_
 cbv
 (repeat' first|(refine Na ?_ fun _ _=>?_;(focus lia);cbv)|(refine CallThen.mk _ _ (C.fn (k)) ?_;cbv)|(refine Nl fun _ _ hq=>?_;(try simp only [lenS] at hq);cbv)|(refine Nm fun _ _=>?_;cbv)|(refine Br.t ?_ ?_;(focus first|assumption|lia);cbv)|(refine Br.f ?_ ?_;(focus first|assumption|lia);cbv)|(refine Br.mk (fun _=>?_) (fun _=>?_)<;>cbv)|(refine Need.mk ?_ ?_;rotate_left;cbv)|(refine R0 ?_;cbv))
 all_goals first
  | exact⟨rfl,trivial⟩
  | (exfalso;lia)
  | trace_state
theorem both_b {a1 a2 b1 b2 c1 c2:Int} (h:gOk a1 a2=true) (h2:¬ gOk b1 b2=true):Fn prog 108 [.agg [.int .i64 a1,.int .i64 a2],.agg [.int .i64 b1,.int .i64 b2],.agg [.int .i64 c1,.int .i64 c2]] [] [.int .i64 1] []:=by
 have k:=gcheck_ok h;have k2:=gcheck_bad h2
 refine go (fn:=Proofs.Tryz.f108) (n:=17) (rv:=[ResultVar.tmp 6]) rfl (by decide) rfl (by decide +kernel) rfl rfl (by simp) fun F L C=>?_
 cbv
 (repeat' first|(refine Na ?_ fun _ _=>?_;(focus lia);cbv)|(refine CallThen.mk _ _ (C.fn (k)) ?_;cbv)|(refine CallThen.mk _ _ (C.fn (k2)) ?_;cbv)|(refine Nl fun _ _ hq=>?_;(try simp only [lenS] at hq);cbv)|(refine Nm fun _ _=>?_;cbv)|(refine Br.t ?_ ?_;(focus first|assumption|lia);cbv)|(refine Br.f ?_ ?_;(focus first|assumption|lia);cbv)|(refine Br.mk (fun _=>?_) (fun _=>?_)<;>cbv)|(refine Need.mk ?_ ?_;rotate_left;cbv)|(refine R0 ?_;cbv))
 all_goals first
  | exact⟨rfl,trivial⟩
  | (exfalso;lia)
  | trace_state
theorem both_c {a1 a2 b1 b2 c1 c2:Int} (h:gOk a1 a2=true) (h2:gOk b1 b2=true) (h3:¬ gOk c1 c2=true):Fn prog 108 [.agg [.int .i64 a1,.int .i64 a2],.agg [.int .i64 b1,.int .i64 b2],.agg [.int .i64 c1,.int .i64 c2]] [] [.int .i64 3] []:=by
 have k:=gcheck_ok h;have k2:=gcheck_ok h2;have k3:=gcheck_bad h3
 refine go (fn:=Proofs.Tryz.f108) (n:=17) (rv:=[ResultVar.tmp 6]) rfl (by decide) rfl (by decide +kernel) rfl rfl (by simp) fun F L C=>?_
 cbv
 (repeat' first|(refine Na ?_ fun _ _=>?_;(focus lia);cbv)|(refine CallThen.mk _ _ (C.fn (k)) ?_;cbv)|(refine CallThen.mk _ _ (C.fn (k2)) ?_;cbv)|(refine CallThen.mk _ _ (C.fn (k3)) ?_;cbv)|(refine Nl fun _ _ hq=>?_;(try simp only [lenS] at hq);cbv)|(refine Nm fun _ _=>?_;cbv)|(refine Br.t ?_ ?_;(focus first|assumption|lia);cbv)|(refine Br.f ?_ ?_;(focus first|assumption|lia);cbv)|(refine Br.mk (fun _=>?_) (fun _=>?_)<;>cbv)|(refine Need.mk ?_ ?_;rotate_left;cbv)|(refine R0 ?_;cbv))
 all_goals first
  | exact⟨rfl,trivial⟩
  | (exfalso;lia)
  | trace_state
theorem both_ok {a1 a2 b1 b2 c1 c2:Int} (h:gOk a1 a2=true) (h2:gOk b1 b2=true) (h3:gOk c1 c2=true):Fn prog 108 [.agg [.int .i64 a1,.int .i64 a2],.agg [.int .i64 b1,.int .i64 b2],.agg [.int .i64 c1,.int .i64 c2]] [] [.int .i64 0] []:=by
 have k:=gcheck_ok h;have k2:=gcheck_ok h2;have k3:=gcheck_ok h3
 refine go (fn:=Proofs.Tryz.f108) (n:=17) (rv:=[ResultVar.tmp 6]) rfl (by decide) rfl (by decide +kernel) rfl rfl (by simp) fun F L C=>?_
 cbv
 (repeat' first|(refine Na ?_ fun _ _=>?_;(focus lia);cbv)|(refine CallThen.mk _ _ (C.fn (k)) ?_;cbv)|(refine CallThen.mk _ _ (C.fn (k2)) ?_;cbv)|(refine CallThen.mk _ _ (C.fn (k3)) ?_;cbv)|(refine Nl fun _ _ hq=>?_;(try simp only [lenS] at hq);cbv)|(refine Nm fun _ _=>?_;cbv)|(refine Br.t ?_ ?_;(focus first|assumption|lia);cbv)|(refine Br.f ?_ ?_;(focus first|assumption|lia);cbv)|(refine Br.mk (fun _=>?_) (fun _=>?_)<;>cbv)|(refine Need.mk ?_ ?_;rotate_left;cbv)|(refine R0 ?_;cbv))
 all_goals first
  | exact⟨rfl,trivial⟩
  | (exfalso;lia)
  | trace_state
def gRes (a1 a2 b1 b2 c1 c2:Int):Int×Int×Int :=
 if gOk a1 a2=true∧gOk b1 b2=true then(if gOk c1 c2=true then(c1,c2,0) else(0,0,3)) else(0,0,1)
theorem gadd_fn (a1 a2 b1 b2:Int):Fn prog 82 [.agg [.int .i64 a1,.int .i64 a2],.agg [.int .i64 b1,.int .i64 b2]] [] [.agg [.int .i64 (gRes a1 a2 b1 b2 (a1+b1) (a2+b2)).1,.int .i64 (gRes a1 a2 b1 b2 (a1+b1) (a2+b2)).2.1],.int .i64 (gRes a1 a2 b1 b2 (a1+b1) (a2+b2)).2.2] []:=by
 by_cases h:gOk a1 a2=true
 ·by_cases h2:gOk b1 b2=true
  ·have f1:okF a1∧okF a2:=by obtain⟨q1,q2,q3,q4⟩:=gOk_iff.1 h;exact⟨okF_of (by omega),okF_of (by omega)⟩
   have f2:okF b1∧okF b2:=by obtain⟨q1,q2,q3,q4⟩:=gOk_iff.1 h2;exact⟨okF_of (by omega),okF_of (by omega)⟩
   have f3:okF (a1+b1)∧okF (a2+b2):=by obtain⟨q1,q2,q3,q4⟩:=gOk_iff.1 h;obtain⟨q5,q6,q7,q8⟩:=gOk_iff.1 h2;exact⟨okF_of (by omega),okF_of (by omega)⟩
   have k0:=gof_fn f1.1 f1.2
   have k1:=gof_fn f2.1 f2.2
   have hm:okF (a1+b1)∧okF (a2+b2):=f3
   obtain⟨c1,e1⟩:∃ c,c=a1+b1:=⟨_,rfl⟩
   obtain⟨c2,e2⟩:∃ c,c=a2+b2:=⟨_,rfl⟩
   rw[← e1,← e2] at f3 ⊢
   have k2:=gpoint_fn f3.1 f3.2
   have k3:=both_ok h h2 h
   by_cases h3:gOk c1 c2=true
   ·rw[show gRes a1 a2 b1 b2 c1 c2=(c1,c2,0) by rw[gRes,if_pos ⟨h,h2⟩,if_pos h3]]
    have k4:=both_ok h h2 h3
    clear h h2 h3 f1 f2 f3
    refine go (fn:=Proofs.Tryz.f82) (n:=30) (rv:=[ResultVar.cell 4 35,ResultVar.tmp 5]) rfl (by decide) rfl (by decide +kernel) rfl rfl (by simp) fun F L C=>?_
    cbv
    (repeat' first|(refine Named.atG c1 e1 ?_;cbv)|(refine Named.atG c2 e2 ?_;cbv)|(refine Na ?_ fun _ _=>?_;(focus lia);cbv)|(refine CallThen.mk _ _ (C.fn (k3)) ?_;cbv)|(refine CallThen.mk _ _ (C.fn (k0)) ?_;cbv)|(refine CallThen.mk _ _ (C.fn (k1)) ?_;cbv)|(refine CallThen.mk _ _ (C.fn (k2)) ?_;cbv)|(refine CallThen.mk _ _ (C.fn (k4)) ?_;cbv)|(refine Nl fun _ _ hq=>?_;(try simp only [lenS] at hq);cbv)|(refine Nm fun _ _=>?_;cbv)|(refine Br.t ?_ ?_;(focus first|assumption|lia);cbv)|(refine Br.f ?_ ?_;(focus first|assumption|lia);cbv)|(refine Br.mk (fun _=>?_) (fun _=>?_)<;>cbv)|(refine Need.mk ?_ ?_;rotate_left;cbv)|(refine R0 ?_;cbv))
    all_goals first
     | exact hm
     | exact⟨rfl,rfl,rfl,trivial⟩
     | (exfalso;lia)
     | trace_state
   ·rw[show gRes a1 a2 b1 b2 c1 c2=(0,0,3) by rw[gRes,if_pos ⟨h,h2⟩,if_neg h3]]
    have k4:=both_c h h2 h3
    clear h h2 h3 f1 f2 f3
    refine go (fn:=Proofs.Tryz.f82) (n:=30) (rv:=[ResultVar.cell 4 35,ResultVar.tmp 5]) rfl (by decide) rfl (by decide +kernel) rfl rfl (by simp) fun F L C=>?_
    cbv
    (repeat' first|(refine Named.atG c1 e1 ?_;cbv)|(refine Named.atG c2 e2 ?_;cbv)|(refine Na ?_ fun _ _=>?_;(focus lia);cbv)|(refine CallThen.mk _ _ (C.fn (k3)) ?_;cbv)|(refine CallThen.mk _ _ (C.fn (k0)) ?_;cbv)|(refine CallThen.mk _ _ (C.fn (k1)) ?_;cbv)|(refine CallThen.mk _ _ (C.fn (k2)) ?_;cbv)|(refine CallThen.mk _ _ (C.fn (k4)) ?_;cbv)|(refine Nl fun _ _ hq=>?_;(try simp only [lenS] at hq);cbv)|(refine Nm fun _ _=>?_;cbv)|(refine Br.t ?_ ?_;(focus first|assumption|lia);cbv)|(refine Br.f ?_ ?_;(focus first|assumption|lia);cbv)|(refine Br.mk (fun _=>?_) (fun _=>?_)<;>cbv)|(refine Need.mk ?_ ?_;rotate_left;cbv)|(refine R0 ?_;cbv))
    all_goals first
     | exact hm
     | exact⟨rfl,rfl,rfl,trivial⟩
     | (exfalso;lia)
     | trace_state
  ·rw[show gRes a1 a2 b1 b2 (a1+b1) (a2+b2)=(0,0,1) by rw[gRes,if_neg (fun q=>h2 q.2)]]
   have k3:=both_b (c1:=a1) (c2:=a2) h h2
   clear h h2
   refine go (fn:=Proofs.Tryz.f82) (n:=30) (rv:=[ResultVar.cell 4 35,ResultVar.tmp 5]) rfl (by decide) rfl (by decide +kernel) rfl rfl (by simp) fun F L C=>?_
   cbv
   (repeat' first|(refine Na ?_ fun _ _=>?_;(focus lia);cbv)|(refine CallThen.mk _ _ (C.fn (k3)) ?_;cbv)|(refine Nl fun _ _ hq=>?_;(try simp only [lenS] at hq);cbv)|(refine Nm fun _ _=>?_;cbv)|(refine Br.t ?_ ?_;(focus first|assumption|lia);cbv)|(refine Br.f ?_ ?_;(focus first|assumption|lia);cbv)|(refine Br.mk (fun _=>?_) (fun _=>?_)<;>cbv)|(refine Need.mk ?_ ?_;rotate_left;cbv)|(refine R0 ?_;cbv))
   all_goals first
    | exact⟨rfl,rfl,rfl,trivial⟩
    | (exfalso;lia)
    | trace_state
 ·rw[show gRes a1 a2 b1 b2 (a1+b1) (a2+b2)=(0,0,1) by rw[gRes,if_neg (fun q=>h q.1)]]
  have k3:=both_a (b1:=b1) (b2:=b2) (c1:=a1) (c2:=a2) h
  clear h
  refine go (fn:=Proofs.Tryz.f82) (n:=30) (rv:=[ResultVar.cell 4 35,ResultVar.tmp 5]) rfl (by decide) rfl (by decide +kernel) rfl rfl (by simp) fun F L C=>?_
  cbv
  (repeat' first|(refine Na ?_ fun _ _=>?_;(focus lia);cbv)|(refine CallThen.mk _ _ (C.fn (k3)) ?_;cbv)|(refine Nl fun _ _ hq=>?_;(try simp only [lenS] at hq);cbv)|(refine Nm fun _ _=>?_;cbv)|(refine Br.t ?_ ?_;(focus first|assumption|lia);cbv)|(refine Br.f ?_ ?_;(focus first|assumption|lia);cbv)|(refine Br.mk (fun _=>?_) (fun _=>?_)<;>cbv)|(refine Need.mk ?_ ?_;rotate_left;cbv)|(refine R0 ?_;cbv))
  all_goals first
   | exact⟨rfl,rfl,rfl,trivial⟩
   | (exfalso;lia)
   | trace_state
theorem gmul_fn (a1 a2 b1 b2:Int):Fn prog 81 [.agg [.int .i64 a1,.int .i64 a2],.agg [.int .i64 b1,.int .i64 b2]] [] [.agg [.int .i64 (gRes a1 a2 b1 b2 (a1 * b1-a2 * b2) (a1 * b2+a2 * b1)).1,.int .i64 (gRes a1 a2 b1 b2 (a1 * b1-a2 * b2) (a1 * b2+a2 * b1)).2.1],.int .i64 (gRes a1 a2 b1 b2 (a1 * b1-a2 * b2) (a1 * b2+a2 * b1)).2.2] []:=by
 by_cases h:gOk a1 a2=true
 ·by_cases h2:gOk b1 b2=true
  ·have f1:okF a1∧okF a2:=by obtain⟨q1,q2,q3,q4⟩:=gOk_iff.1 h;exact⟨okF_of (by omega),okF_of (by omega)⟩
   have f2:okF b1∧okF b2:=by obtain⟨q1,q2,q3,q4⟩:=gOk_iff.1 h2;exact⟨okF_of (by omega),okF_of (by omega)⟩
   have f3:okF (a1 * b1-a2 * b2)∧okF (a1 * b2+a2 * b1):=mul_parts h h2
   have k0:=gof_fn f1.1 f1.2
   have k1:=gof_fn f2.1 f2.2
   have hm:okM a1 a2 b1 b2:=okM_of h h2
   obtain⟨c1,e1⟩:∃ c,c=a1 * b1-a2 * b2:=⟨_,rfl⟩
   obtain⟨c2,e2⟩:∃ c,c=a1 * b2+a2 * b1:=⟨_,rfl⟩
   rw[← e1,← e2] at f3 ⊢
   have k2:=gpoint_fn f3.1 f3.2
   have k3:=both_ok h h2 h
   by_cases h3:gOk c1 c2=true
   ·rw[show gRes a1 a2 b1 b2 c1 c2=(c1,c2,0) by rw[gRes,if_pos ⟨h,h2⟩,if_pos h3]]
    have k4:=both_ok h h2 h3
    clear h h2 h3 f1 f2 f3
    refine go (fn:=Proofs.Tryz.f81) (n:=30) (rv:=[ResultVar.cell 4 35,ResultVar.tmp 5]) rfl (by decide) rfl (by decide +kernel) rfl rfl (by simp) fun F L C=>?_
    cbv
    (repeat' first|(refine Named.atG c1 e1 ?_;cbv)|(refine Named.atG c2 e2 ?_;cbv)|(refine Na ?_ fun _ _=>?_;(focus lia);cbv)|(refine CallThen.mk _ _ (C.fn (k3)) ?_;cbv)|(refine CallThen.mk _ _ (C.fn (k0)) ?_;cbv)|(refine CallThen.mk _ _ (C.fn (k1)) ?_;cbv)|(refine CallThen.mk _ _ (C.fn (k2)) ?_;cbv)|(refine CallThen.mk _ _ (C.fn (k4)) ?_;cbv)|(refine Nl fun _ _ hq=>?_;(try simp only [lenS] at hq);cbv)|(refine Nm fun _ _=>?_;cbv)|(refine Br.t ?_ ?_;(focus first|assumption|lia);cbv)|(refine Br.f ?_ ?_;(focus first|assumption|lia);cbv)|(refine Br.mk (fun _=>?_) (fun _=>?_)<;>cbv)|(refine Need.mk ?_ ?_;rotate_left;cbv)|(refine R0 ?_;cbv))
    all_goals first
     | exact hm
     | exact⟨rfl,rfl,rfl,trivial⟩
     | (exfalso;lia)
     | trace_state
   ·rw[show gRes a1 a2 b1 b2 c1 c2=(0,0,3) by rw[gRes,if_pos ⟨h,h2⟩,if_neg h3]]
    have k4:=both_c h h2 h3
    clear h h2 h3 f1 f2 f3
    refine go (fn:=Proofs.Tryz.f81) (n:=30) (rv:=[ResultVar.cell 4 35,ResultVar.tmp 5]) rfl (by decide) rfl (by decide +kernel) rfl rfl (by simp) fun F L C=>?_
    cbv
    (repeat' first|(refine Named.atG c1 e1 ?_;cbv)|(refine Named.atG c2 e2 ?_;cbv)|(refine Na ?_ fun _ _=>?_;(focus lia);cbv)|(refine CallThen.mk _ _ (C.fn (k3)) ?_;cbv)|(refine CallThen.mk _ _ (C.fn (k0)) ?_;cbv)|(refine CallThen.mk _ _ (C.fn (k1)) ?_;cbv)|(refine CallThen.mk _ _ (C.fn (k2)) ?_;cbv)|(refine CallThen.mk _ _ (C.fn (k4)) ?_;cbv)|(refine Nl fun _ _ hq=>?_;(try simp only [lenS] at hq);cbv)|(refine Nm fun _ _=>?_;cbv)|(refine Br.t ?_ ?_;(focus first|assumption|lia);cbv)|(refine Br.f ?_ ?_;(focus first|assumption|lia);cbv)|(refine Br.mk (fun _=>?_) (fun _=>?_)<;>cbv)|(refine Need.mk ?_ ?_;rotate_left;cbv)|(refine R0 ?_;cbv))
    all_goals first
     | exact hm
     | exact⟨rfl,rfl,rfl,trivial⟩
     | (exfalso;lia)
     | trace_state
  ·rw[show gRes a1 a2 b1 b2 (a1 * b1-a2 * b2) (a1 * b2+a2 * b1)=(0,0,1) by rw[gRes,if_neg (fun q=>h2 q.2)]]
   have k3:=both_b (c1:=a1) (c2:=a2) h h2
   clear h h2
   refine go (fn:=Proofs.Tryz.f81) (n:=30) (rv:=[ResultVar.cell 4 35,ResultVar.tmp 5]) rfl (by decide) rfl (by decide +kernel) rfl rfl (by simp) fun F L C=>?_
   cbv
   (repeat' first|(refine Na ?_ fun _ _=>?_;(focus lia);cbv)|(refine CallThen.mk _ _ (C.fn (k3)) ?_;cbv)|(refine Nl fun _ _ hq=>?_;(try simp only [lenS] at hq);cbv)|(refine Nm fun _ _=>?_;cbv)|(refine Br.t ?_ ?_;(focus first|assumption|lia);cbv)|(refine Br.f ?_ ?_;(focus first|assumption|lia);cbv)|(refine Br.mk (fun _=>?_) (fun _=>?_)<;>cbv)|(refine Need.mk ?_ ?_;rotate_left;cbv)|(refine R0 ?_;cbv))
   all_goals first
    | exact⟨rfl,rfl,rfl,trivial⟩
    | (exfalso;lia)
    | trace_state
 ·rw[show gRes a1 a2 b1 b2 (a1 * b1-a2 * b2) (a1 * b2+a2 * b1)=(0,0,1) by rw[gRes,if_neg (fun q=>h q.1)]]
  have k3:=both_a (b1:=b1) (b2:=b2) (c1:=a1) (c2:=a2) h
  clear h
  refine go (fn:=Proofs.Tryz.f81) (n:=30) (rv:=[ResultVar.cell 4 35,ResultVar.tmp 5]) rfl (by decide) rfl (by decide +kernel) rfl rfl (by simp) fun F L C=>?_
  cbv
  (repeat' first|(refine Na ?_ fun _ _=>?_;(focus lia);cbv)|(refine CallThen.mk _ _ (C.fn (k3)) ?_;cbv)|(refine Nl fun _ _ hq=>?_;(try simp only [lenS] at hq);cbv)|(refine Nm fun _ _=>?_;cbv)|(refine Br.t ?_ ?_;(focus first|assumption|lia);cbv)|(refine Br.f ?_ ?_;(focus first|assumption|lia);cbv)|(refine Br.mk (fun _=>?_) (fun _=>?_)<;>cbv)|(refine Need.mk ?_ ?_;rotate_left;cbv)|(refine R0 ?_;cbv))
  all_goals first
   | exact⟨rfl,rfl,rfl,trivial⟩
   | (exfalso;lia)
   | trace_state
theorem gnorm_fn (a b:Int):Fn prog 77 [.agg [.int .i64 a,.int .i64 b]] [] [.int .i64 (if gOk a b=true then a * a+b * b else 0)] []:=by
 by_cases h:gOk a b=true
 ·rw[if_pos h]
  have k:=gcheck_ok h
  obtain⟨q1,q2,q3,q4⟩:=gOk_iff.1 h
  have m1:=mul_bound q1 q2 q1 q2
  have m2:=mul_bound q3 q4 q3 q4
  obtain⟨x,ex⟩:∃ x,x=a * a:=⟨_,rfl⟩
  obtain⟨y,ey⟩:∃ y,y=b * b:=⟨_,rfl⟩
  rw[← ex] at m1
  rw[← ey] at m2
  rw[← ex,← ey]
  have nx:x=IntKind.i64.wrap (a * a):=by rw[← ex,wrap64 (by omega)]
  have ny:y=IntKind.i64.wrap (b * b):=by rw[← ey,wrap64 (by omega)]
  obtain⟨z,ez⟩:∃ z,z=x+y:=⟨_,rfl⟩
  rw[← ez]
  have nz:z=IntKind.i64.wrap (x+y):=by rw[wrap64 (by omega)];exact ez
  clear h ex ey ez
  refine go (fn:=Proofs.Tryz.f77) (n:=16) (rv:=[ResultVar.tmp 2]) rfl (by decide) rfl (by decide +kernel) rfl rfl (by simp) fun F L C=>?_
  cbv
  (repeat' first|(refine Named.atG x nx ?_;cbv)|(refine Named.atG y ny ?_;cbv)|(refine Named.atG z nz ?_;cbv)|(refine Na ?_ fun _ _=>?_;(focus lia);cbv)|(refine CallThen.mk _ _ (C.fn (k)) ?_;cbv)|(refine Nl fun _ _ hq=>?_;(try simp only [lenS] at hq);cbv)|(refine Nm fun _ _=>?_;cbv)|(refine Br.t ?_ ?_;(focus first|assumption|lia);cbv)|(refine Br.f ?_ ?_;(focus first|assumption|lia);cbv)|(refine Br.mk (fun _=>?_) (fun _=>?_)<;>cbv)|(refine Need.mk ?_ ?_;rotate_left;cbv)|(refine R0 ?_;cbv))
  all_goals first
   | exact⟨rfl,trivial⟩
   | (exfalso;lia)
   | trace_state
 ·rw[if_neg h]
  have k:=gcheck_bad h
  clear h
  refine go (fn:=Proofs.Tryz.f77) (n:=16) (rv:=[ResultVar.tmp 2]) rfl (by decide) rfl (by decide +kernel) rfl rfl (by simp) fun F L C=>?_
  cbv
  (repeat' first|(refine Na ?_ fun _ _=>?_;(focus lia);cbv)|(refine CallThen.mk _ _ (C.fn (k)) ?_;cbv)|(refine Nl fun _ _ hq=>?_;(try simp only [lenS] at hq);cbv)|(refine Nm fun _ _=>?_;cbv)|(refine Br.t ?_ ?_;(focus first|assumption|lia);cbv)|(refine Br.f ?_ ?_;(focus first|assumption|lia);cbv)|(refine Br.mk (fun _=>?_) (fun _=>?_)<;>cbv)|(refine Need.mk ?_ ?_;rotate_left;cbv)|(refine R0 ?_;cbv))
  all_goals first
   | exact⟨rfl,trivial⟩
   | (exfalso;lia)
   | trace_state
theorem gmirror_fn {a b:Int} (h:gOk a b=true):Fn prog 78 [.agg [.int .i64 a,.int .i64 b]] [] [.agg [.int .i64 a,.int .i64 (-b)]] []:=by
 have k:=gcheck_ok h
 obtain⟨q1,q2,q3,q4⟩:=gOk_iff.1 h
 have nb:-b=IntKind.i64.wrap (0-b):=by rw[wrap64 (by omega)];omega
 obtain⟨y,ey⟩:∃ y,y=-b:=⟨_,rfl⟩
 rw[← ey] at nb ⊢
 clear h
 refine go (fn:=Proofs.Tryz.f78) (n:=12) (rv:=[ResultVar.cell 2 35]) rfl (by decide) rfl (by decide +kernel) rfl rfl (by simp) fun F L C=>?_
 cbv
 (repeat' first|(refine Named.atG y nb ?_;cbv)|(refine Na ?_ fun _ _=>?_;(focus lia);cbv)|(refine CallThen.mk _ _ (C.fn (k)) ?_;cbv)|(refine Nl fun _ _ hq=>?_;(try simp only [lenS] at hq);cbv)|(refine Nm fun _ _=>?_;cbv)|(refine Br.t ?_ ?_;(focus first|assumption|lia);cbv)|(refine Br.f ?_ ?_;(focus first|assumption|lia);cbv)|(refine Br.mk (fun _=>?_) (fun _=>?_)<;>cbv)|(refine Need.mk ?_ ?_;rotate_left;cbv)|(refine R0 ?_;cbv))
 all_goals first
  | exact⟨rfl,rfl,trivial⟩
  | (exfalso;lia)
  | trace_state
theorem gturn_fn {a b:Int} (h:gOk a b=true):Fn prog 79 [.agg [.int .i64 a,.int .i64 b],.int .i64 1] [] [.agg [.int .i64 (-b),.int .i64 a]] []:=by
 have k:=gcheck_ok h
 obtain⟨q1,q2,q3,q4⟩:=gOk_iff.1 h
 have f1:okF a∧okF b:=⟨okF_of (by omega),okF_of (by omega)⟩
 obtain⟨c,ec⟩:∃ c,c=-b:=⟨_,rfl⟩
 have f2:okF c∧okF a:=⟨okF_of (by omega),f1.1⟩
 have k0:=gof_fn f1.1 f1.2
 have k1:=gpoint_fn f2.1 f2.2
 have hm:okM a b 0 1:=okM_of h (by decide)
 have e1:c=a * 0-b * 1:=by omega
 have e2:a=a * 1+b * 0:=by omega
 have r1:1=IntKind.i64.wrap 1:=by decide
 rw[← ec]
 obtain⟨z,hz⟩:∃ z:Nat,z=0:=⟨_,rfl⟩
 obtain⟨p,hp⟩:∃ p:Nat→Int,p=fun i=>if i=0 then a else c:=⟨_,rfl⟩
 obtain⟨q,hq⟩:∃ p:Nat→Int,p=fun i=>if i=0 then b else a:=⟨_,rfl⟩
 have pz:p z=a∧q z=b:=by rw[hp,hq,hz];exact⟨rfl,rfl⟩
 have p0:p 0=a∧q 0=b:=by rw[hp,hq];exact⟨rfl,rfl⟩
 have p1:p 1=c∧q 1=a:=by rw[hp,hq];exact⟨rfl,rfl⟩
 have t4:(4:Int)≠0:=by decide
 have m1:Int.tmod 1 4=1:=by decide
 have m2:Int.tmod 5 4=1:=by decide
 clear f1 f2 ec h hp hq
 refine go (fn:=Proofs.Tryz.f79) (n:=21) (rv:=[ResultVar.cell 4 35]) rfl (by decide) rfl (by decide +kernel) rfl rfl (by simp) fun F L C=>?_
 cbv
 (repeat' first|(refine Na ?_ fun _ _=>?_;(focus lia);cbv)|(refine CallThen.mk _ _ (C.fn (k)) ?_;cbv)|(refine CallThen.mk _ _ (C.fn (k0)) ?_;cbv)|(refine Nl fun _ _ hq=>?_;(try simp only [lenS] at hq);cbv)|(refine Nm fun _ _=>?_;cbv)|(refine Br.t ?_ ?_;(focus first|assumption|lia);cbv)|(refine Br.f ?_ ?_;(focus first|assumption|lia);cbv)|(refine Br.mk (fun _=>?_) (fun _=>?_)<;>cbv)|(refine Need.mk ?_ ?_;rotate_left;cbv)|(refine R0 ?_;cbv))
 case refine_2.refine_1=>exact t4
 all_goals try exact t4
 rename_i y1 hy1 y2 hy2 y3 hy3
 have hy4:y3=1:=by rw[hy3,hy2,hy1,m1];exact m2
 clear hy3 hy2 hy1 r1 t4 m1 m2
 refine LoopThen.mk (C.loopAt (ι:=Nat) [(5,5),(16,20)] (fun i=>[(5,.cx (p i) (q i)),(15,.int .i64 1),(16,.int .i64 i)]) (fun _=>[(256,.box [.int .i64 a,.int .i64 b]),(384,.box [.int .i64 0,.int .i64 0])])
  (fun i=>i≤1) (fun i=>1-i) (by decide +kernel) (Start.mk z [] [] (show z≤1 by omega) ?_) ?_)
 ·clear k k0 k1
  cbv
  (repeat' apply And.intro)<;>first|exact True.intro|exact pz.1|exact pz.2|exact hy4.symm|rfl|lia|trace_state
 intro i g
 cbv
 have g1:i≤1:=g
 clear g
 obtain h0|h0:i=0∨i=1:=by omega
 ·have hpi:p i=a∧q i=b:=by rw[h0];exact p0
  have hP:∀ j,j=1→p j=c∧q j=a:=fun j hj=>by rw[hj];exact p1
  rw[hpi.1,hpi.2]
  clear k k0 k1 pz p0 p1 hpi
  (repeat' first|(refine Named.atG c e1 ?_;cbv)|(refine Named.atG a e2 ?_;cbv)|(refine Br.t ?_ ?_;(focus(clear e1 e2 hm hP;lia));cbv)|(refine Na ?_ fun _ _=>?_;(focus(clear e1 e2 hm hP;lia));cbv)|(refine Na ?_ fun _ _=>?_;(focus lia);cbv)|(refine Back.up [] [] ?_ ?_ fun _ _=>?_;rotate_left 2;cbv;refine And.intro ?_ ?_)|(refine Nl fun _ _ hq=>?_;(try simp only [lenS] at hq);cbv)|(refine Nm fun _ _=>?_;cbv)|(refine Br.t ?_ ?_;(focus first|assumption|lia);cbv)|(refine Br.f ?_ ?_;(focus first|assumption|lia);cbv)|(refine Br.mk (fun _=>?_) (fun _=>?_)<;>cbv)|(refine Need.mk ?_ ?_;rotate_left;cbv)|(refine R0 ?_;cbv))
  all_goals(repeat' apply And.intro)
  all_goals first
   | exact hm
   | exact True.intro
   | exact(hP _ (by clear e1 e2 hm hP;lia)).1
   | exact(hP _ (by clear e1 e2 hm hP;lia)).2
   | rfl
   | (clear e1 e2 hm hP;lia)
   | trace_state
 ·have hpi:p i=c∧q i=a:=by rw[h0];exact p1
  rw[hpi.1,hpi.2]
  clear k k0 pz p0 p1 hpi hm e1 e2
  (repeat' first|(refine Na ?_ fun _ _=>?_;(focus lia);cbv)|(refine CallThen.mk _ _ (C.fn (k1)) ?_;cbv)|(refine Nl fun _ _ hq=>?_;(try simp only [lenS] at hq);cbv)|(refine Nm fun _ _=>?_;cbv)|(refine Br.t ?_ ?_;(focus first|assumption|lia);cbv)|(refine Br.f ?_ ?_;(focus first|assumption|lia);cbv)|(refine Br.mk (fun _=>?_) (fun _=>?_)<;>cbv)|(refine Need.mk ?_ ?_;rotate_left;cbv)|(refine R0 ?_;cbv))
  all_goals first
   | exact⟨rfl,rfl,trivial⟩
   | (exfalso;clear k1;lia)
   | trace_state
end Go.Sym
