/- Points: the walks. -/
import Derived.Test.YtjlefaabcalkkaaGreatDoorK4
import Derived.Test.YtjlefaabcalkkaaGreatDoorK5
set_option linter.all false
set_option linter.unusedVariables false
set_option linter.unusedSimpArgs false
namespace Go.Sym
open Go Go.Proofs.Tryz
set_option maxRecDepth 100000
theorem gcheck_fn (O:Opq) (a b:Int):Fn prog 182 [.agg [.int .i64 a,.int .i64 b]] [] [.int .i64 (O.o gErr a b)] []:=by
 refine go (fn:=Proofs.Tryz.f182) (n:=20) (rv:=[ResultVar.tmp 2]) rfl (by decide) rfl (by decide +kernel) rfl rfl (by simp) fun F L C=>?_
 cbv
 (repeat' first|(refine Br.mk (fun _=>?_) (fun _=>?_)<;>cbv)|(refine R0 ?_;cbv))
 all_goals(try subst_vars)
 all_goals(try simp only [O.h,natTo,natPred,emp] at *)
 all_goals(try subst_vars)
 all_goals(repeat' apply And.intro)
 all_goals first
  | exact True.intro
  | exact WkR.refl _
  | lia
  | (simp_all [gErr,gOk];done)
  | (simp_all [gErr,gOk]<;>lia)
  | (grind [gErr,gOk])
  | skip
theorem gof_fn {a b:Int} (h1:okF a) (h2:okF b):Fn prog 183 [.agg [.int .i64 a,.int .i64 b]] [] [.cx a b] []:=by
 refine go (fn:=Proofs.Tryz.f183) (n:=9) (rv:=[ResultVar.tmp 2]) rfl (by decide) rfl (by decide +kernel) rfl rfl (by simp) fun F L C=>?_
 cbv
 (repeat' first|(refine Need.mk ?_ ?_;rotate_left;cbv)|(refine R0 ?_;cbv))
 all_goals first
  | assumption
  | exact⟨rfl,rfl,trivial⟩
  | trace_state
theorem gpoint_fn {a b:Int} (h1:okF a) (h2:okF b):Fn prog 184 [.cx a b] [] [.agg [.int .i64 a,.int .i64 b]] []:=by
 have h1:-9007199254740992<a∧a<9007199254740992:=h1
 have h2:-9007199254740992<b∧b<9007199254740992:=h2
 refine go (fn:=Proofs.Tryz.f184) (n:=9) (rv:=[ResultVar.cell 2 90]) rfl (by decide) rfl (by decide +kernel) rfl rfl (by simp) fun F L C=>?_
 cbv
 (repeat' first|(refine Need.mk ?_ ?_;rotate_left;cbv)|(refine R0 ?_;cbv))
 all_goals first
  | exact⟨rfl,rfl,trivial⟩
  | exact⟨by rw[show IntKind.i64.min=-9223372036854775808 from rfl];omega,by rw[show IntKind.i64.max=9223372036854775807 from rfl];omega⟩
  | trace_state
theorem gcheck_ok {a b:Int} (h:gOk a b=true):Fn prog 182 [.agg [.int .i64 a,.int .i64 b]] [] [.int .i64 0] []:=by
 have:=gcheck_fn Opq.id a b
 rwa [Opq.id.h,gErr_ok h] at this
theorem gcheck_bad {a b:Int} (h:¬ gOk a b=true):Fn prog 182 [.agg [.int .i64 a,.int .i64 b]] [] [.int .i64 1] []:=by
 have:=gcheck_fn Opq.id a b
 rwa [Opq.id.h,gErr_bad h] at this
theorem Named.atG {α:Type} {x:Unit→α} {K:α→Prop} (v:α) (h:v=x ()) (k:K v):Named α x K:=.mk fun n e=>by rw[e,← h];exact k
theorem both_a {a1 a2 b1 b2 c1 c2:Int} (h:¬ gOk a1 a2=true):Fn prog 185 [.agg [.int .i64 a1,.int .i64 a2],.agg [.int .i64 b1,.int .i64 b2],.agg [.int .i64 c1,.int .i64 c2]] [] [.int .i64 1] []:=by
 have k:=gcheck_bad h
 refine go (fn:=Proofs.Tryz.f185) (n:=17) (rv:=[ResultVar.tmp 6]) rfl (by decide) rfl (by decide +kernel) rfl rfl (by simp) fun F L C=>?_
 cbv
 (repeat' first|(refine CallThen.mk _ _ (C.fn (k)) ?_;cbv)|(refine Br.f ?_ ?_;(focus first|assumption|lia);cbv)|(refine R0 ?_;cbv))
 all_goals first
  | exact⟨rfl,trivial⟩
  | (exfalso;lia)
  | trace_state
theorem both_b {a1 a2 b1 b2 c1 c2:Int} (h:gOk a1 a2=true) (h2:¬ gOk b1 b2=true):Fn prog 185 [.agg [.int .i64 a1,.int .i64 a2],.agg [.int .i64 b1,.int .i64 b2],.agg [.int .i64 c1,.int .i64 c2]] [] [.int .i64 1] []:=by
 have k:=gcheck_ok h;have k2:=gcheck_bad h2
 refine go (fn:=Proofs.Tryz.f185) (n:=17) (rv:=[ResultVar.tmp 6]) rfl (by decide) rfl (by decide +kernel) rfl rfl (by simp) fun F L C=>?_
 cbv
 (repeat' first|(refine CallThen.mk _ _ (C.fn (k)) ?_;cbv)|(refine CallThen.mk _ _ (C.fn (k2)) ?_;cbv)|(refine Br.t ?_ ?_;(focus first|assumption|lia);cbv)|(refine Br.f ?_ ?_;(focus first|assumption|lia);cbv)|(refine R0 ?_;cbv))
 all_goals first
  | exact⟨rfl,trivial⟩
  | (exfalso;lia)
  | trace_state
theorem both_c {a1 a2 b1 b2 c1 c2:Int} (h:gOk a1 a2=true) (h2:gOk b1 b2=true) (h3:¬ gOk c1 c2=true):Fn prog 185 [.agg [.int .i64 a1,.int .i64 a2],.agg [.int .i64 b1,.int .i64 b2],.agg [.int .i64 c1,.int .i64 c2]] [] [.int .i64 3] []:=by
 have k:=gcheck_ok h;have k2:=gcheck_ok h2;have k3:=gcheck_bad h3
 refine go (fn:=Proofs.Tryz.f185) (n:=17) (rv:=[ResultVar.tmp 6]) rfl (by decide) rfl (by decide +kernel) rfl rfl (by simp) fun F L C=>?_
 cbv
 (repeat' first|(refine CallThen.mk _ _ (C.fn (k)) ?_;cbv)|(refine CallThen.mk _ _ (C.fn (k2)) ?_;cbv)|(refine CallThen.mk _ _ (C.fn (k3)) ?_;cbv)|(refine Br.t ?_ ?_;(focus first|assumption|lia);cbv)|(refine Br.f ?_ ?_;(focus first|assumption|lia);cbv)|(refine R0 ?_;cbv))
 all_goals first
  | exact⟨rfl,trivial⟩
  | (exfalso;lia)
  | trace_state
theorem both_ok {a1 a2 b1 b2 c1 c2:Int} (h:gOk a1 a2=true) (h2:gOk b1 b2=true) (h3:gOk c1 c2=true):Fn prog 185 [.agg [.int .i64 a1,.int .i64 a2],.agg [.int .i64 b1,.int .i64 b2],.agg [.int .i64 c1,.int .i64 c2]] [] [.int .i64 0] []:=by
 have k:=gcheck_ok h;have k2:=gcheck_ok h2;have k3:=gcheck_ok h3
 refine go (fn:=Proofs.Tryz.f185) (n:=17) (rv:=[ResultVar.tmp 6]) rfl (by decide) rfl (by decide +kernel) rfl rfl (by simp) fun F L C=>?_
 cbv
 (repeat' first|(refine CallThen.mk _ _ (C.fn (k)) ?_;cbv)|(refine CallThen.mk _ _ (C.fn (k2)) ?_;cbv)|(refine CallThen.mk _ _ (C.fn (k3)) ?_;cbv)|(refine Br.t ?_ ?_;(focus first|assumption|lia);cbv)|(refine R0 ?_;cbv))
 all_goals first
  | exact⟨rfl,trivial⟩
  | (exfalso;lia)
  | trace_state
def gRes (a1 a2 b1 b2 c1 c2:Int):Int×Int×Int :=
 if gOk a1 a2=true∧gOk b1 b2=true then(if gOk c1 c2=true then(c1,c2,0) else(0,0,3)) else(0,0,1)
theorem gadd_fn (a1 a2 b1 b2:Int):Fn prog 168 [.agg [.int .i64 a1,.int .i64 a2],.agg [.int .i64 b1,.int .i64 b2]] [] [.agg [.int .i64 (gRes a1 a2 b1 b2 (a1+b1) (a2+b2)).1,.int .i64 (gRes a1 a2 b1 b2 (a1+b1) (a2+b2)).2.1],.int .i64 (gRes a1 a2 b1 b2 (a1+b1) (a2+b2)).2.2] []:=by
 by_cases h:gOk a1 a2=true
 ·by_cases h2:gOk b1 b2=true
  ·have f1:okF a1∧okF a2:=by obtain⟨q1,q2,q3,q4⟩:=gOk_iff.1 h;exact⟨okF_of (by omega),okF_of (by omega)⟩
   have f2:okF b1∧okF b2:=by obtain⟨q1,q2,q3,q4⟩:=gOk_iff.1 h2;exact⟨okF_of (by omega),okF_of (by omega)⟩
   have f3:okF (a1+b1)∧okF (a2+b2):=by obtain⟨q1,q2,q3,q4⟩:=gOk_iff.1 h;obtain⟨q5,q6,q7,q8⟩:=gOk_iff.1 h2;exact⟨okF_of (by omega),okF_of (by omega)⟩
   have k0:=gof_fn f1.1 f1.2
   have k1:=gof_fn f2.1 f2.2
   have hm:okF (a1+b1)∧okF (a2+b2):=f3
   obtain⟨c1,e1⟩:∃ c,c=a1+b1:=⟨_,rfl⟩
   obtain⟨c2,e2⟩:∃ c,c=a2+b2:=⟨_,rfl⟩
   rw[← e1,← e2] at f3 ⊢
   have k2:=gpoint_fn f3.1 f3.2
   have k3:=both_ok h h2 h
   by_cases h3:gOk c1 c2=true
   ·rw[show gRes a1 a2 b1 b2 c1 c2=(c1,c2,0) by rw[gRes,if_pos ⟨h,h2⟩,if_pos h3]]
    have k4:=both_ok h h2 h3
    clear h h2 h3 f1 f2 f3
    refine go (fn:=Proofs.Tryz.f168) (n:=30) (rv:=[ResultVar.cell 4 90,ResultVar.tmp 5]) rfl (by decide) rfl (by decide +kernel) rfl rfl (by simp) fun F L C=>?_
    cbv
    (repeat' first|(refine Named.atG c1 e1 ?_;cbv)|(refine Named.atG c2 e2 ?_;cbv)|(refine CallThen.mk _ _ (C.fn (k3)) ?_;cbv)|(refine CallThen.mk _ _ (C.fn (k0)) ?_;cbv)|(refine CallThen.mk _ _ (C.fn (k1)) ?_;cbv)|(refine CallThen.mk _ _ (C.fn (k2)) ?_;cbv)|(refine CallThen.mk _ _ (C.fn (k4)) ?_;cbv)|(refine Br.t ?_ ?_;(focus first|assumption|lia);cbv)|(refine Need.mk ?_ ?_;rotate_left;cbv)|(refine R0 ?_;cbv))
    all_goals first
     | exact hm
     | exact⟨rfl,rfl,rfl,trivial⟩
     | (exfalso;lia)
     | trace_state
   ·rw[show gRes a1 a2 b1 b2 c1 c2=(0,0,3) by rw[gRes,if_pos ⟨h,h2⟩,if_neg h3]]
    have k4:=both_c h h2 h3
    clear h h2 h3 f1 f2 f3
    refine go (fn:=Proofs.Tryz.f168) (n:=30) (rv:=[ResultVar.cell 4 90,ResultVar.tmp 5]) rfl (by decide) rfl (by decide +kernel) rfl rfl (by simp) fun F L C=>?_
    cbv
    (repeat' first|(refine Named.atG c1 e1 ?_;cbv)|(refine Named.atG c2 e2 ?_;cbv)|(refine CallThen.mk _ _ (C.fn (k3)) ?_;cbv)|(refine CallThen.mk _ _ (C.fn (k0)) ?_;cbv)|(refine CallThen.mk _ _ (C.fn (k1)) ?_;cbv)|(refine CallThen.mk _ _ (C.fn (k2)) ?_;cbv)|(refine CallThen.mk _ _ (C.fn (k4)) ?_;cbv)|(refine Br.t ?_ ?_;(focus first|assumption|lia);cbv)|(refine Br.f ?_ ?_;(focus first|assumption|lia);cbv)|(refine Need.mk ?_ ?_;rotate_left;cbv)|(refine R0 ?_;cbv))
    all_goals first
     | exact hm
     | exact⟨rfl,rfl,rfl,trivial⟩
     | (exfalso;lia)
     | trace_state
  ·rw[show gRes a1 a2 b1 b2 (a1+b1) (a2+b2)=(0,0,1) by rw[gRes,if_neg (fun q=>h2 q.2)]]
   have k3:=both_b (c1:=a1) (c2:=a2) h h2
   clear h h2
   refine go (fn:=Proofs.Tryz.f168) (n:=30) (rv:=[ResultVar.cell 4 90,ResultVar.tmp 5]) rfl (by decide) rfl (by decide +kernel) rfl rfl (by simp) fun F L C=>?_
   cbv
   (repeat' first|(refine CallThen.mk _ _ (C.fn (k3)) ?_;cbv)|(refine Br.f ?_ ?_;(focus first|assumption|lia);cbv)|(refine R0 ?_;cbv))
   all_goals first
    | exact⟨rfl,rfl,rfl,trivial⟩
    | (exfalso;lia)
    | trace_state
 ·rw[show gRes a1 a2 b1 b2 (a1+b1) (a2+b2)=(0,0,1) by rw[gRes,if_neg (fun q=>h q.1)]]
  have k3:=both_a (b1:=b1) (b2:=b2) (c1:=a1) (c2:=a2) h
  clear h
  refine go (fn:=Proofs.Tryz.f168) (n:=30) (rv:=[ResultVar.cell 4 90,ResultVar.tmp 5]) rfl (by decide) rfl (by decide +kernel) rfl rfl (by simp) fun F L C=>?_
  cbv
  (repeat' first|(refine CallThen.mk _ _ (C.fn (k3)) ?_;cbv)|(refine Br.f ?_ ?_;(focus first|assumption|lia);cbv)|(refine R0 ?_;cbv))
  all_goals first
   | exact⟨rfl,rfl,rfl,trivial⟩
   | (exfalso;lia)
   | trace_state
theorem gmul_fn (a1 a2 b1 b2:Int):Fn prog 167 [.agg [.int .i64 a1,.int .i64 a2],.agg [.int .i64 b1,.int .i64 b2]] [] [.agg [.int .i64 (gRes a1 a2 b1 b2 (a1 * b1-a2 * b2) (a1 * b2+a2 * b1)).1,.int .i64 (gRes a1 a2 b1 b2 (a1 * b1-a2 * b2) (a1 * b2+a2 * b1)).2.1],.int .i64 (gRes a1 a2 b1 b2 (a1 * b1-a2 * b2) (a1 * b2+a2 * b1)).2.2] []:=by
 by_cases h:gOk a1 a2=true
 ·by_cases h2:gOk b1 b2=true
  ·have f1:okF a1∧okF a2:=by obtain⟨q1,q2,q3,q4⟩:=gOk_iff.1 h;exact⟨okF_of (by omega),okF_of (by omega)⟩
   have f2:okF b1∧okF b2:=by obtain⟨q1,q2,q3,q4⟩:=gOk_iff.1 h2;exact⟨okF_of (by omega),okF_of (by omega)⟩
   have f3:okF (a1 * b1-a2 * b2)∧okF (a1 * b2+a2 * b1):=mul_parts h h2
   have k0:=gof_fn f1.1 f1.2
   have k1:=gof_fn f2.1 f2.2
   have hm:okM a1 a2 b1 b2:=okM_of h h2
   obtain⟨c1,e1⟩:∃ c,c=a1 * b1-a2 * b2:=⟨_,rfl⟩
   obtain⟨c2,e2⟩:∃ c,c=a1 * b2+a2 * b1:=⟨_,rfl⟩
   rw[← e1,← e2] at f3 ⊢
   have k2:=gpoint_fn f3.1 f3.2
   have k3:=both_ok h h2 h
   by_cases h3:gOk c1 c2=true
   ·rw[show gRes a1 a2 b1 b2 c1 c2=(c1,c2,0) by rw[gRes,if_pos ⟨h,h2⟩,if_pos h3]]
    have k4:=both_ok h h2 h3
    clear h h2 h3 f1 f2 f3
    refine go (fn:=Proofs.Tryz.f167) (n:=30) (rv:=[ResultVar.cell 4 90,ResultVar.tmp 5]) rfl (by decide) rfl (by decide +kernel) rfl rfl (by simp) fun F L C=>?_
    cbv
    (repeat' first|(refine Named.atG c1 e1 ?_;cbv)|(refine Named.atG c2 e2 ?_;cbv)|(refine CallThen.mk _ _ (C.fn (k3)) ?_;cbv)|(refine CallThen.mk _ _ (C.fn (k0)) ?_;cbv)|(refine CallThen.mk _ _ (C.fn (k1)) ?_;cbv)|(refine CallThen.mk _ _ (C.fn (k2)) ?_;cbv)|(refine CallThen.mk _ _ (C.fn (k4)) ?_;cbv)|(refine Br.t ?_ ?_;(focus first|assumption|lia);cbv)|(refine Need.mk ?_ ?_;rotate_left;cbv)|(refine R0 ?_;cbv))
    all_goals first
     | exact hm
     | exact⟨rfl,rfl,rfl,trivial⟩
     | (exfalso;lia)
     | trace_state
   ·rw[show gRes a1 a2 b1 b2 c1 c2=(0,0,3) by rw[gRes,if_pos ⟨h,h2⟩,if_neg h3]]
    have k4:=both_c h h2 h3
    clear h h2 h3 f1 f2 f3
    refine go (fn:=Proofs.Tryz.f167) (n:=30) (rv:=[ResultVar.cell 4 90,ResultVar.tmp 5]) rfl (by decide) rfl (by decide +kernel) rfl rfl (by simp) fun F L C=>?_
    cbv
    (repeat' first|(refine Named.atG c1 e1 ?_;cbv)|(refine Named.atG c2 e2 ?_;cbv)|(refine CallThen.mk _ _ (C.fn (k3)) ?_;cbv)|(refine CallThen.mk _ _ (C.fn (k0)) ?_;cbv)|(refine CallThen.mk _ _ (C.fn (k1)) ?_;cbv)|(refine CallThen.mk _ _ (C.fn (k2)) ?_;cbv)|(refine CallThen.mk _ _ (C.fn (k4)) ?_;cbv)|(refine Br.t ?_ ?_;(focus first|assumption|lia);cbv)|(refine Br.f ?_ ?_;(focus first|assumption|lia);cbv)|(refine Need.mk ?_ ?_;rotate_left;cbv)|(refine R0 ?_;cbv))
    all_goals first
     | exact hm
     | exact⟨rfl,rfl,rfl,trivial⟩
     | (exfalso;lia)
     | trace_state
  ·rw[show gRes a1 a2 b1 b2 (a1 * b1-a2 * b2) (a1 * b2+a2 * b1)=(0,0,1) by rw[gRes,if_neg (fun q=>h2 q.2)]]
   have k3:=both_b (c1:=a1) (c2:=a2) h h2
   clear h h2
   refine go (fn:=Proofs.Tryz.f167) (n:=30) (rv:=[ResultVar.cell 4 90,ResultVar.tmp 5]) rfl (by decide) rfl (by decide +kernel) rfl rfl (by simp) fun F L C=>?_
   cbv
   (repeat' first|(refine CallThen.mk _ _ (C.fn (k3)) ?_;cbv)|(refine Br.f ?_ ?_;(focus first|assumption|lia);cbv)|(refine R0 ?_;cbv))
   all_goals first
    | exact⟨rfl,rfl,rfl,trivial⟩
    | (exfalso;lia)
    | trace_state
 ·rw[show gRes a1 a2 b1 b2 (a1 * b1-a2 * b2) (a1 * b2+a2 * b1)=(0,0,1) by rw[gRes,if_neg (fun q=>h q.1)]]
  have k3:=both_a (b1:=b1) (b2:=b2) (c1:=a1) (c2:=a2) h
  clear h
  refine go (fn:=Proofs.Tryz.f167) (n:=30) (rv:=[ResultVar.cell 4 90,ResultVar.tmp 5]) rfl (by decide) rfl (by decide +kernel) rfl rfl (by simp) fun F L C=>?_
  cbv
  (repeat' first|(refine CallThen.mk _ _ (C.fn (k3)) ?_;cbv)|(refine Br.f ?_ ?_;(focus first|assumption|lia);cbv)|(refine R0 ?_;cbv))
  all_goals first
   | exact⟨rfl,rfl,rfl,trivial⟩
   | (exfalso;lia)
   | trace_state
theorem gnorm_fn (a b:Int):Fn prog 163 [.agg [.int .i64 a,.int .i64 b]] [] [.int .i64 (if gOk a b=true then a * a+b * b else 0)] []:=by
 by_cases h:gOk a b=true
 ·rw[if_pos h]
  have k:=gcheck_ok h
  obtain⟨q1,q2,q3,q4⟩:=gOk_iff.1 h
  have m1:=mul_bound q1 q2 q1 q2
  have m2:=mul_bound q3 q4 q3 q4
  obtain⟨x,ex⟩:∃ x,x=a * a:=⟨_,rfl⟩
  obtain⟨y,ey⟩:∃ y,y=b * b:=⟨_,rfl⟩
  rw[← ex] at m1
  rw[← ey] at m2
  rw[← ex,← ey]
  have nx:x=IntKind.i64.wrap (a * a):=by rw[← ex,wrap64 (by omega)]
  have ny:y=IntKind.i64.wrap (b * b):=by rw[← ey,wrap64 (by omega)]
  obtain⟨z,ez⟩:∃ z,z=x+y:=⟨_,rfl⟩
  rw[← ez]
  have nz:z=IntKind.i64.wrap (x+y):=by rw[wrap64 (by omega)];exact ez
  clear h ex ey ez
  refine go (fn:=Proofs.Tryz.f163) (n:=16) (rv:=[ResultVar.tmp 2]) rfl (by decide) rfl (by decide +kernel) rfl rfl (by simp) fun F L C=>?_
  cbv
  (repeat' first|(refine Named.atG x nx ?_;cbv)|(refine Named.atG y ny ?_;cbv)|(refine Named.atG z nz ?_;cbv)|(refine CallThen.mk _ _ (C.fn (k)) ?_;cbv)|(refine Br.t ?_ ?_;(focus first|assumption|lia);cbv)|(refine R0 ?_;cbv))
  all_goals first
   | exact⟨rfl,trivial⟩
   | (exfalso;lia)
   | trace_state
 ·rw[if_neg h]
  have k:=gcheck_bad h
  clear h
  refine go (fn:=Proofs.Tryz.f163) (n:=16) (rv:=[ResultVar.tmp 2]) rfl (by decide) rfl (by decide +kernel) rfl rfl (by simp) fun F L C=>?_
  cbv
  (repeat' first|(refine CallThen.mk _ _ (C.fn (k)) ?_;cbv)|(refine Br.f ?_ ?_;(focus first|assumption|lia);cbv)|(refine R0 ?_;cbv))
  all_goals first
   | exact⟨rfl,trivial⟩
   | (exfalso;lia)
   | trace_state
theorem gmirror_fn {a b:Int} (h:gOk a b=true):Fn prog 164 [.agg [.int .i64 a,.int .i64 b]] [] [.agg [.int .i64 a,.int .i64 (-b)]] []:=by
 have k:=gcheck_ok h
 obtain⟨q1,q2,q3,q4⟩:=gOk_iff.1 h
 have nb:-b=IntKind.i64.wrap (0-b):=by rw[wrap64 (by omega)];omega
 obtain⟨y,ey⟩:∃ y,y=-b:=⟨_,rfl⟩
 rw[← ey] at nb ⊢
 clear h
 refine go (fn:=Proofs.Tryz.f164) (n:=12) (rv:=[ResultVar.cell 2 90]) rfl (by decide) rfl (by decide +kernel) rfl rfl (by simp) fun F L C=>?_
 cbv
 (repeat' first|(refine Named.atG y nb ?_;cbv)|(refine CallThen.mk _ _ (C.fn (k)) ?_;cbv)|(refine Br.t ?_ ?_;(focus first|assumption|lia);cbv)|(refine R0 ?_;cbv))
 all_goals first
  | exact⟨rfl,rfl,trivial⟩
  | (exfalso;lia)
  | trace_state
theorem gturn_fn {a b:Int} (h:gOk a b=true):Fn prog 165 [.agg [.int .i64 a,.int .i64 b],.int .i64 1] [] [.agg [.int .i64 (-b),.int .i64 a]] []:=by
 have k:=gcheck_ok h
 obtain⟨q1,q2,q3,q4⟩:=gOk_iff.1 h
 have f1:okF a∧okF b:=⟨okF_of (by omega),okF_of (by omega)⟩
 obtain⟨c,ec⟩:∃ c,c=-b:=⟨_,rfl⟩
 have f2:okF c∧okF a:=⟨okF_of (by omega),f1.1⟩
 have k0:=gof_fn f1.1 f1.2
 have k1:=gpoint_fn f2.1 f2.2
 have hm:okM a b 0 1:=okM_of h (by decide)
 have e1:c=a * 0-b * 1:=by omega
 have e2:a=a * 1+b * 0:=by omega
 have r1:1=IntKind.i64.wrap 1:=by decide
 rw[← ec]
 obtain⟨z,hz⟩:∃ z:Nat,z=0:=⟨_,rfl⟩
 obtain⟨p,hp⟩:∃ p:Nat→Int,p=fun i=>if i=0 then a else c:=⟨_,rfl⟩
 obtain⟨q,hq⟩:∃ p:Nat→Int,p=fun i=>if i=0 then b else a:=⟨_,rfl⟩
 have pz:p z=a∧q z=b:=by rw[hp,hq,hz];exact⟨rfl,rfl⟩
 have p0:p 0=a∧q 0=b:=by rw[hp,hq];exact⟨rfl,rfl⟩
 have p1:p 1=c∧q 1=a:=by rw[hp,hq];exact⟨rfl,rfl⟩
 have t4:(4:Int)≠0:=by decide
 have m1:Int.tmod 1 4=1:=by decide
 have m2:Int.tmod 5 4=1:=by decide
 clear f1 f2 ec h hp hq
 refine go (fn:=Proofs.Tryz.f165) (n:=21) (rv:=[ResultVar.cell 4 90]) rfl (by decide) rfl (by decide +kernel) rfl rfl (by simp) fun F L C=>?_
 cbv
 (repeat' first|(refine Na ?_ fun _ _=>?_;(focus lia);cbv)|(refine CallThen.mk _ _ (C.fn (k)) ?_;cbv)|(refine CallThen.mk _ _ (C.fn (k0)) ?_;cbv)|(refine Nm fun _ _=>?_;cbv)|(refine Br.t ?_ ?_;(focus first|assumption|lia);cbv)|(refine Need.mk ?_ ?_;rotate_left;cbv))
 case refine_2.refine_1=>exact t4
 all_goals try exact t4
 rename_i y1 hy1 y2 hy2 y3 hy3
 have hy4:y3=1:=by rw[hy3,hy2,hy1,m1];exact m2
 clear hy3 hy2 hy1 r1 t4 m1 m2
 refine LoopThen.mk (C.loopAt (ι:=Nat) [(5,5),(16,20)] (fun i=>[(5,.cx (p i) (q i)),(15,.int .i64 1),(16,.int .i64 i)]) (fun _=>[(256,.box [.int .i64 a,.int .i64 b]),(384,.box [.int .i64 0,.int .i64 0])])
  (fun i=>i≤1) (fun i=>1-i) (by decide +kernel) (Start.mk z [] [] (show z≤1 by omega) ?_) ?_)
 ·clear k k0 k1
  cbv
  (repeat' apply And.intro)<;>first|exact True.intro|exact pz.1|exact pz.2|exact hy4.symm|rfl|lia|trace_state
 intro i g
 cbv
 have g1:i≤1:=g
 clear g
 obtain h0|h0:i=0∨i=1:=by omega
 ·have hpi:p i=a∧q i=b:=by rw[h0];exact p0
  have hP:∀ j,j=1→p j=c∧q j=a:=fun j hj=>by rw[hj];exact p1
  rw[hpi.1,hpi.2]
  clear k k0 k1 pz p0 p1 hpi
  (repeat' first|(refine Named.atG c e1 ?_;cbv)|(refine Named.atG a e2 ?_;cbv)|(refine Br.t ?_ ?_;(focus(clear e1 e2 hm hP;lia));cbv)|(refine Na ?_ fun _ _=>?_;(focus(clear e1 e2 hm hP;lia));cbv)|(refine Back.up [] [] ?_ ?_ fun _ _=>?_;rotate_left 2;cbv;refine And.intro ?_ ?_)|(refine Need.mk ?_ ?_;rotate_left;cbv))
  all_goals(repeat' apply And.intro)
  all_goals first
   | exact hm
   | exact True.intro
   | exact(hP _ (by clear e1 e2 hm hP;lia)).1
   | exact(hP _ (by clear e1 e2 hm hP;lia)).2
   | rfl
   | (clear e1 e2 hm hP;lia)
   | trace_state
 ·have hpi:p i=c∧q i=a:=by rw[h0];exact p1
  rw[hpi.1,hpi.2]
  clear k k0 pz p0 p1 hpi hm e1 e2
  (repeat' first|(refine CallThen.mk _ _ (C.fn (k1)) ?_;cbv)|(refine Br.f ?_ ?_;(focus first|assumption|lia);cbv)|(refine R0 ?_;cbv))
  all_goals first
   | exact⟨rfl,rfl,trivial⟩
   | (exfalso;clear k1;lia)
   | trace_state
open Go
def asP (v:Val):Option (Int×Int):=if v.kind=1 then(if gOk v.num 0=true then some (v.num,0) else none) else if v.kind=3 then some (v.re,v.im) else none
def mulP (p q:Int×Int):Val:=pointV (p.1 * q.1-p.2 * q.2) (p.1 * q.2+p.2 * q.1)
def twoO (k:Int) (a b:Val):Option Val :=
 if a.kind=2∨b.kind=2 then(if k=3∧a.kind=b.kind then some (textV (a.text++b.text)) else none)
 else if a.kind=1∧b.kind=1 then some (numV (if k=3 then a.num+b.num else a.num * b.num))
 else if k=3 then(if a.kind=b.kind then some (pointV (a.re+b.re) (a.im+b.im)) else none)
 else match asP a,asP b with
  | some p,some q=>some (mulP p q)
  | _,_=>none
def lowC (c:UInt8):UInt8:=if 65≤c.toNat∧c.toNat≤90 then c+32 else c
def lowV (s:ByteArray):ByteArray:=⟨(s.data.toList.map lowC).toArray⟩
def headS (s:ByteArray):ByteArray:=s.extract 0 (min 1 s.size)
def nNorm:List UInt8:=[110,111,114,109]
def nConj:List UInt8:=[99,111,110,106]
def nTurn:List UInt8:=[116,117,114,110]
def nLow:List UInt8:=[108,111,119]
def nHead:List UInt8:=[104,101,97,100]
def callO (w:List UInt8) (v:Val):Option Val :=
 if v.kind=3 then(if w=nNorm then some (numV (v.re * v.re+v.im * v.im)) else if w=nConj then some (pointV v.re (-v.im)) else if w=nTurn then some (pointV (-v.im) v.re) else none)
 else if v.kind=2 then(if w=nLow then some (textV (lowV v.text)) else if w=nHead then some (textV (headS v.text)) else none)
 else none
open Classical in
noncomputable def okV (o:Option Val):Option Val:=match o with
 | some v=>if v.Ok then some v else none
 | none=>none
noncomputable def rawO (d:Doc) (k:Int) (t:List UInt8) (n:Int) (vs:List Val):Option Val :=
 if k=1 then(if getB d (ofL t)=true then some (getV d (ofL t)) else none)
 else if k=2 then some (numV n)
 else if k=5 then(match vs with
  | [v]=>callO t v
  | _=>none)
 else(match vs with
  | [a,b]=>twoO k a b
  | _=>none)
mutual
noncomputable def valO (d:Doc):Nd→Option Val
 | .mk k t n l=>match valsO d l with
  | none=>none
  | some vs=>okV (rawO d k t n vs)
noncomputable def valsO (d:Doc):List Nd→Option (List Val)
 | []=>some []
 | x::r=>match valO d x with
  | none=>none
  | some v=>match valsO d r with
   | none=>none
   | some vs=>some (v::vs)
end
theorem okV_some {o:Option Val} {v:Val}:okV o=some v ↔ o=some v∧v.Ok:=by
 unfold okV
 cases o with
 | none=>simp
 | some w =>
  simp only
  split
  ·rename_i h;simp only [Option.some.injEq];exact⟨fun e=>by subst e;exact⟨rfl,h⟩,fun e=>e.1⟩
  ·rename_i h;simp only [Option.some.injEq];exact⟨fun e=>(by cases e),fun e=>absurd (e.1 ▸ e.2) h⟩
theorem valO_ok {d:Doc} {x:Nd} {v:Val} (h:valO d x=some v):v.Ok:=by
 obtain⟨k,t,n,l⟩:=x
 rw[valO] at h
 split at h
 ·cases h
 ·exact(okV_some.1 h).2
theorem valsO_append (d:Doc):∀ (l:List Nd) (x:Nd),valsO d (l++[x])=match valsO d l with
  | none=>none
  | some vs=>(valO d x).map fun v=>vs++[v]
 | [],x=>by
  rw[List.nil_append,valsO,valsO,valsO]
  cases valO d x<;>rfl
 | y::l,x=>by
  rw[List.cons_append,valsO,valsO,valsO_append d l x]
  cases valO d y with
  | none=>rfl
  | some v =>
   cases valsO d l with
   | none=>rfl
   | some vs=>cases valO d x<;>rfl
theorem valsO_take_none {d:Doc} {l:List Nd} {i:Nat} {x:Nd} (hx:l[i]?=some x) (hn:valO d x=none):valsO d l=none:=by
 induction l generalizing i with
 | nil=>simp at hx
 | cons y r ih =>
  rw[valsO]
  cases i with
  | zero =>
   simp at hx;subst hx
   rw[hn]
  | succ i =>
   rw[ih (by simpa using hx)]
   cases valO d y<;>rfl
theorem valsO_len {d:Doc}:∀ {l:List Nd} {vs:List Val},valsO d l=some vs→vs.length=l.length
 | [],vs,h=>by simp [valsO] at h;subst h;rfl
 | x::r,vs,h=>by
  rw[valsO] at h
  split at h
  ·cases h
  ·split at h
   ·cases h
   ·rename_i ws e
    cases h
    simp [valsO_len e]
theorem valsO_ok {d:Doc}:∀ {l:List Nd} {vs:List Val},valsO d l=some vs→∀ v∈vs,v.Ok
 | [],vs,h=>by simp [valsO] at h;subst h;simp
 | x::r,vs,h=>by
  rw[valsO] at h
  split at h
  ·cases h
  ·rename_i v ev
   split at h
   ·cases h
   ·rename_i ws e
    cases h
    intro w hw
    rcases List.mem_cons.1 hw with rfl|hw
    ·exact valO_ok ev
    ·exact valsO_ok e w hw
noncomputable def valV (d:Doc) (x:Nd):Val:=(valO d x).getD zeroV
noncomputable def valB (d:Doc) (x:Nd):Bool:=(valO d x).isSome
def Vals.enc (l:List Val):List (List PV):=l.map Val.enc
theorem Vals.enc_len (l:List Val):(Vals.enc l).length=l.length:=by simp [Vals.enc]
noncomputable def valsF (d:Doc) (l:List Nd) (i:Nat):List Val:=(valsO d (l.take i)).getD []
theorem valsF_succ {d:Doc} {l:List Nd} {i:Nat} {x:Nd} {v:Val} (hx:l[i]?=some x) (h:valsO d (l.take i)=some (valsF d l i)) (hv:valO d x=some v) :
  valsO d (l.take (i+1))=some (valsF d l (i+1))∧valsF d l (i+1)=valsF d l i++[v]:=by
 have e:valsO d (l.take (i+1))=some (valsF d l i++[v]):=by
  rw[List.take_add_one,hx,Option.toList_some,valsO_append,h,hv];rfl
 have e2:valsF d l (i+1)=valsF d l i++[v]:=by rw[valsF,e];rfl
 exact⟨by rw[e,e2],e2⟩
theorem valsF_zero (d : Doc) (l : List Nd) : valsF d l 0 = [] ∧ valsO d (l.take 0) = some (valsF d l 0) := by
  have : valsO d (l.take 0) = some [] := by rw [List.take_zero, valsO]
  exact ⟨by rw [valsF, this]; rfl, by rw [valsF, this]; rfl⟩
/-! ### What the program's product of numbers asks -/
theorem prod_fits {a b:Int} (ha:-9007199254740992≤a∧a≤9007199254740992) (hb:-9007199254740992≤b∧b≤9007199254740992) (h0:a≠0) :
  (IntKind.i64.wrap (IntKind.i64.wrap (a * b) |>.tdiv a)=b∧IntKind.i64.wrap (a * b)=a * b) ∨
  (¬ IntKind.i64.wrap (IntKind.i64.wrap (a * b) |>.tdiv a)=b∧¬ (-9007199254740992≤a * b∧a * b≤9007199254740992)):=by
 by_cases hf:-9223372036854775808≤a * b∧a * b<9223372036854775808
 ·left
  have e:IntKind.i64.wrap (a * b)=a * b:=wrap64 hf
  rw[e,Int.mul_tdiv_cancel_left b h0]
  exact⟨wrap64 (by omega),rfl⟩
 ·right
  refine⟨?_,by omega⟩
  obtain⟨n,hn⟩:∃ n,n=IntKind.i64.wrap (a * b):=⟨_,rfl⟩
  rw[← hn]
  have hw:∃ k:Int,k≠0∧a * b=n+k * 18446744073709551616∧-9223372036854775808≤n∧n<9223372036854775808:=by
   unfold IntKind.wrap at hn
   simp only [IntKind.bits,IntKind.signed] at hn
   refine⟨(a * b-n) / 18446744073709551616,?_,?_,?_,?_⟩<;>(simp at hn;omega)
  obtain⟨k,hk0,hk,h1,h2⟩:=hw
  intro hq
  -- n / a is b up to 2^64,and n=a * (n / a)+rest
  have hr:=Int.tmod_add_mul_tdiv n a
  have hrb:(n.tmod a).natAbs<a.natAbs:=by
   rw[Int.natAbs_tmod]
   exact Nat.mod_lt _ (by omega)
  by_cases hm:a=-1
  ·subst hm
   have:-1 * b=-b:=by omega
   omega
  ·have hqs:-9223372036854775808≤n.tdiv a∧n.tdiv a<9223372036854775808:=by
    by_cases h1':a=1
    ·subst h1';rw[Int.tdiv_one];exact⟨h1,h2⟩
    ·have h2':2≤a.natAbs:=by omega
     have:(n.tdiv a).natAbs≤9223372036854775808 / 2:=by
      rw[Int.natAbs_tdiv]
      exact Nat.div_le_div (by omega) h2' (by omega)
     omega
   rw[wrap64 hqs] at hq
   rw[hq] at hr
   omega
open Classical in
noncomputable def okBv (B:Bool) (v:Val):Option Val:=if B=true∧v.Ok then some v else none
theorem okV_is {o:Option Val} {v:Val} (h:o=some v):okV o=okBv true v:=by
 subst h
 by_cases hv:v.Ok<;>simp [okV,okBv,hv]
theorem okV_not {o:Option Val} {v:Val} (h:okV o=none):okV o=okBv false v:=by rw[h,okBv,if_neg (by simp)]
theorem okV_bad {v:Val} (h:¬ v.Ok):okV (some v)=none:=by unfold okV;simp [h]
theorem val_cases {v:Val} (h:v.Ok):(∃ n,v=numV n∧-9007199254740992≤n∧n≤9007199254740992)∨(∃ x y,v=pointV x y∧gOk x y=true)∨∃ s,v=textV s∧s.size≤256:=by
 obtain⟨k,n,t,x,y⟩:=v
 rcases h with ⟨h1,h2,h3,h4,h5,h6⟩ | ⟨h1,h2,h3,h4,h5,h6,h7⟩ | ⟨h1,h2,h3,h4,h5⟩
 ·simp only at h1 h2 h3 h4 h5 h6;subst h1;subst h2;subst h3;subst h4;exact .inl ⟨n,rfl,h5,h6⟩
 ·simp only at h1 h2 h3 h4 h5 h6 h7;subst h1;subst h2;subst h3;exact .inr (.inl ⟨x,y,rfl,gOk_iff.2 ⟨h4,h5,h6,h7⟩⟩)
 ·simp only at h1 h2 h3 h4 h5;subst h1;subst h2;subst h3;subst h4;exact .inr (.inr ⟨t,rfl,h5⟩)
theorem numV_ok {n:Int}:(numV n).Ok ↔ -9007199254740992≤n∧n≤9007199254740992:=by simp [Val.Ok,numV]
theorem textV_ok {s:ByteArray}:(textV s).Ok ↔ s.size≤256:=by simp [Val.Ok,textV]
theorem pointV_ok {x y:Int}:(pointV x y).Ok ↔ gOk x y=true:=by simp [Val.Ok,pointV,gOk]
theorem rcheck_p (x y:Int):Fn prog 66 [.agg (pointV x y).enc] [] [.int .i64 (gErr x y)] []:=by
 have h:=rcheck_fn Opq.id (pointV x y)
 rw[Opq.id.h] at h
 rwa [show Val.err (pointV x y)=gErr x y by
  unfold gErr Val.err
  rw[if_neg (by simp [pointV])]
  by_cases h:gOk x y=true
  ·rw[if_pos h,if_pos (pointV_ok.2 h)]
  ·rw[if_neg h,if_neg (fun q=>h (pointV_ok.1 q))]] at h
theorem epoint_n (n:Int):Fn prog 166 [.agg (numV n).enc] [] [.agg [.int .i64 n,.int .i64 0],.bool (gOk n 0)] []:=by
 have k1:=point_fn Opq.id n 0
 have k2:=rcheck_p n 0
 have hg:=@gErr_ok n 0
 have hb:=@gErr_bad n 0
 obtain⟨B,eB⟩:∃ B,B=gOk n 0:=⟨_,rfl⟩
 obtain⟨E,eE⟩:∃ E,E=gErr n 0:=⟨_,rfl⟩
 rw[← eB,← eE] at hg hb
 rw[← eE] at k2
 rw[← eB]
 clear eB eE
 cases B
 ·have hE:E=1:=hb (by decide)
  clear hg hb
  refine go (fn:=Proofs.Tryz.f166) (n:=19) (rv:=[ResultVar.cell 2 90,ResultVar.tmp 3]) rfl (by decide) rfl (by decide +kernel) rfl rfl (by simp) fun F L C=>?_
  cbv
  (repeat' first|(refine CallThen.mk _ _ (C.fn (k1)) ?_;cbv)|(refine CallThen.mk _ _ (C.fn (k2)) ?_;cbv)|(refine Br.t ?_ ?_;(focus first|assumption|lia);cbv)|(refine Br.f ?_ ?_;(focus first|assumption|lia);cbv)|(refine R0 ?_;cbv))
  all_goals first
   | exact⟨rfl,rfl,rfl,trivial⟩
   | (exfalso;clear k1 k2;lia)
   | trace_state
 ·have hE:E=0:=hg rfl
  clear hg hb
  refine go (fn:=Proofs.Tryz.f166) (n:=19) (rv:=[ResultVar.cell 2 90,ResultVar.tmp 3]) rfl (by decide) rfl (by decide +kernel) rfl rfl (by simp) fun F L C=>?_
  cbv
  (repeat' first|(refine CallThen.mk _ _ (C.fn (k1)) ?_;cbv)|(refine CallThen.mk _ _ (C.fn (k2)) ?_;cbv)|(refine Br.t ?_ ?_;(focus first|assumption|lia);cbv)|(refine R0 ?_;cbv))
  all_goals first
   | exact⟨rfl,rfl,rfl,trivial⟩
   | (exfalso;clear k1 k2;lia)
   | trace_state
theorem epoint_p {x y : Int} (h : gOk x y = true) : Fn prog 166 [.agg (pointV x y).enc] [] [.agg [.int .i64 x, .int .i64 y], .bool true] [] := by
  have k2 := rcheck_p x y
  rw [gErr_ok h] at k2
  clear h
  refine go (fn := Proofs.Tryz.f166) (n := 19) (rv := [ResultVar.cell 2 90, ResultVar.tmp 3]) rfl (by decide) rfl (by decide +kernel) rfl rfl (by simp) fun F L C => ?_
  cbv
  (repeat' first | (refine CallThen.mk _ _ (C.fn (k2)) ?_; cbv) | (refine Br.t ?_ ?_; (focus first | assumption | lia); cbv) | (refine Br.f ?_ ?_; (focus first | assumption | lia); cbv) | (refine RetThen.mk [] [] ?_; cbv))
  all_goals first
    | exact ⟨rfl, rfl, rfl, trivial⟩
    | (exfalso; clear k2; lia)
    | trace_state
/-! ### Sums, products -/
theorem two_tt1 {s t S:ByteArray} (hS:S=s++t) (hs:s.size≤256) (ht:t.size≤256) (h:s.size+t.size≤256):Fn prog 144 [.int .i64 3,.agg (textV s).enc,.agg (textV t).enc] [] [.agg (textV S).enc,.bool true] []:=by
 have k:=text_fn Opq.id S
 refine go (fn:=Proofs.Tryz.f144) (n:=140) (rv:=[ResultVar.cell 6 92,ResultVar.tmp 7]) rfl (by decide) rfl (by decide +kernel) rfl rfl (by simp) fun F L C=>?_
 cbv
 (repeat' first|(refine Named.atG S hS ?_;cbv)|(refine Na ?_ fun _ _=>?_;(focus lia);cbv)|(refine CallThen.mk _ _ (C.fn (k)) ?_;cbv)|(refine Nm fun _ _=>?_;cbv)|(refine Br.t ?_ ?_;(focus first|assumption|lia);cbv)|(refine Need.mk ?_ ?_;rotate_left;cbv)|(refine R0 ?_;cbv))
 all_goals first
  | exact⟨rfl,rfl,trivial⟩
  | exact⟨rfl,rfl,rfl,trivial⟩
  | exact⟨rfl,rfl,rfl,rfl,trivial⟩
  | exact⟨rfl,rfl,rfl,rfl,rfl,trivial⟩
  | exact⟨rfl,rfl,rfl,rfl,rfl,rfl,trivial⟩
  | (exfalso;clear k hS;lia)
  | (clear k hS;omega)
  | trace_state
theorem two_tt0 {s t S:ByteArray} (hS:S=s++t) (hs:s.size≤256) (ht:t.size≤256) (h:¬ s.size+t.size≤256):Fn prog 144 [.int .i64 3,.agg (textV s).enc,.agg (textV t).enc] [] [.agg (textV S).enc,.bool false] []:=by
 have k:=text_fn Opq.id S
 refine go (fn:=Proofs.Tryz.f144) (n:=140) (rv:=[ResultVar.cell 6 92,ResultVar.tmp 7]) rfl (by decide) rfl (by decide +kernel) rfl rfl (by simp) fun F L C=>?_
 cbv
 (repeat' first|(refine Named.atG S hS ?_;cbv)|(refine Na ?_ fun _ _=>?_;(focus lia);cbv)|(refine CallThen.mk _ _ (C.fn (k)) ?_;cbv)|(refine Nm fun _ _=>?_;cbv)|(refine Br.t ?_ ?_;(focus first|assumption|lia);cbv)|(refine Br.f ?_ ?_;(focus first|assumption|lia);cbv)|(refine Need.mk ?_ ?_;rotate_left;cbv)|(refine R0 ?_;cbv))
 all_goals first
  | exact⟨rfl,rfl,trivial⟩
  | exact⟨rfl,rfl,rfl,trivial⟩
  | exact⟨rfl,rfl,rfl,rfl,trivial⟩
  | exact⟨rfl,rfl,rfl,rfl,rfl,trivial⟩
  | exact⟨rfl,rfl,rfl,rfl,rfl,rfl,trivial⟩
  | (exfalso;clear k hS;lia)
  | (clear k hS;omega)
  | trace_state
theorem two_tx {k:Int} (hk:k=3∨k=4) {s S:ByteArray} (hS:S=s++ByteArray.empty) (hs:s.size≤256) {b:Val} (hb:b.kind=1∨b.kind=3) (hx:b.text=ByteArray.empty):Fn prog 144 [.int .i64 k,.agg (textV s).enc,.agg b.enc] [] [.agg (textV S).enc,.bool false] []:=by
 obtain⟨b1,b2,b3,b4,b5⟩:=b;have hx:b3=ByteArray.empty:=hx;subst hx;have hb:b1=1∨b1=3:=hb;have k1:=text_fn Opq.id S
 refine go (fn:=Proofs.Tryz.f144) (n:=140) (rv:=[ResultVar.cell 6 92,ResultVar.tmp 7]) rfl (by decide) rfl (by decide +kernel) rfl rfl (by simp) fun F L C=>?_
 cbv
 (repeat' first|(refine Named.atG S hS ?_;cbv)|(refine CallThen.mk _ _ (C.fn (k1)) ?_;cbv)|(refine Br.t ?_ ?_;(focus first|assumption|lia);cbv)|(refine Br.f ?_ ?_;(focus first|assumption|lia);cbv)|(refine Br.mk (fun _=>?_) (fun _=>?_)<;>cbv)|(refine Need.mk ?_ ?_;rotate_left;cbv)|(refine R0 ?_;cbv))
 all_goals first
  | exact⟨rfl,rfl,trivial⟩
  | exact⟨rfl,rfl,rfl,trivial⟩
  | exact⟨rfl,rfl,rfl,rfl,trivial⟩
  | exact⟨rfl,rfl,rfl,rfl,rfl,trivial⟩
  | exact⟨rfl,rfl,rfl,rfl,rfl,rfl,trivial⟩
  | (exfalso;clear k1 hS;lia)
  | (clear k1 hS;simp only [emp,ByteArray.size_empty];omega)
  | trace_state
theorem two_xt {k:Int} (hk:k=3∨k=4) {s S:ByteArray} (hS:S=ByteArray.empty++s) (hs:s.size≤256) {a:Val} (hb:a.kind=1∨a.kind=3) (hx:a.text=ByteArray.empty):Fn prog 144 [.int .i64 k,.agg a.enc,.agg (textV s).enc] [] [.agg (textV S).enc,.bool false] []:=by
 obtain⟨b1,b2,b3,b4,b5⟩:=a;have hx:b3=ByteArray.empty:=hx;subst hx;have hb:b1=1∨b1=3:=hb;have k1:=text_fn Opq.id S
 refine go (fn:=Proofs.Tryz.f144) (n:=140) (rv:=[ResultVar.cell 6 92,ResultVar.tmp 7]) rfl (by decide) rfl (by decide +kernel) rfl rfl (by simp) fun F L C=>?_
 cbv
 (repeat' first|(refine Named.atG S hS ?_;cbv)|(refine CallThen.mk _ _ (C.fn (k1)) ?_;cbv)|(refine Br.t ?_ ?_;(focus first|assumption|lia);cbv)|(refine Br.f ?_ ?_;(focus first|assumption|lia);cbv)|(refine Br.mk (fun _=>?_) (fun _=>?_)<;>cbv)|(refine Need.mk ?_ ?_;rotate_left;cbv)|(refine R0 ?_;cbv))
 all_goals first
  | exact⟨rfl,rfl,trivial⟩
  | exact⟨rfl,rfl,rfl,trivial⟩
  | exact⟨rfl,rfl,rfl,rfl,trivial⟩
  | exact⟨rfl,rfl,rfl,rfl,rfl,trivial⟩
  | exact⟨rfl,rfl,rfl,rfl,rfl,rfl,trivial⟩
  | (exfalso;clear k1 hS;lia)
  | (clear k1 hS;simp only [emp,ByteArray.size_empty];omega)
  | trace_state
theorem two_tt4 {s t S:ByteArray} (hS:S=s++t) (hs:s.size≤256) (ht:t.size≤256):Fn prog 144 [.int .i64 4,.agg (textV s).enc,.agg (textV t).enc] [] [.agg (textV S).enc,.bool false] []:=by
 have k:=text_fn Opq.id S
 refine go (fn:=Proofs.Tryz.f144) (n:=140) (rv:=[ResultVar.cell 6 92,ResultVar.tmp 7]) rfl (by decide) rfl (by decide +kernel) rfl rfl (by simp) fun F L C=>?_
 cbv
 (repeat' first|(refine Named.atG S hS ?_;cbv)|(refine CallThen.mk _ _ (C.fn (k)) ?_;cbv)|(refine Br.t ?_ ?_;(focus first|assumption|lia);cbv)|(refine Br.f ?_ ?_;(focus first|assumption|lia);cbv)|(refine Need.mk ?_ ?_;rotate_left;cbv)|(refine R0 ?_;cbv))
 all_goals first
  | exact⟨rfl,rfl,trivial⟩
  | exact⟨rfl,rfl,rfl,trivial⟩
  | exact⟨rfl,rfl,rfl,rfl,trivial⟩
  | exact⟨rfl,rfl,rfl,rfl,rfl,trivial⟩
  | exact⟨rfl,rfl,rfl,rfl,rfl,rfl,trivial⟩
  | (exfalso;clear k hS;lia)
  | (clear k hS;omega)
  | trace_state
theorem two_nn3 {m n:Int} (hm:-9007199254740992≤m∧m≤9007199254740992) (hn:-9007199254740992≤n∧n≤9007199254740992) {q:Int} (hq:q=m+n):Fn prog 144 [.int .i64 3,.agg (numV m).enc,.agg (numV n).enc] [] [.agg (numV q).enc,.bool true] []:=by
 have k:=num_fn Opq.id q;have nq:q=IntKind.i64.wrap (m+n):=by rw[wrap64 (by omega)];exact hq
 refine go (fn:=Proofs.Tryz.f144) (n:=140) (rv:=[ResultVar.cell 6 92,ResultVar.tmp 7]) rfl (by decide) rfl (by decide +kernel) rfl rfl (by simp) fun F L C=>?_
 cbv
 (repeat' first|(refine Named.atG q nq ?_;cbv)|(refine CallThen.mk _ _ (C.fn (k)) ?_;cbv)|(refine Br.t ?_ ?_;(focus first|assumption|lia);cbv)|(refine Br.f ?_ ?_;(focus first|assumption|lia);cbv)|(refine R0 ?_;cbv))
 all_goals first
  | exact⟨rfl,rfl,trivial⟩
  | exact⟨rfl,rfl,rfl,trivial⟩
  | exact⟨rfl,rfl,rfl,rfl,trivial⟩
  | exact⟨rfl,rfl,rfl,rfl,rfl,trivial⟩
  | exact⟨rfl,rfl,rfl,rfl,rfl,rfl,trivial⟩
  | (exfalso;clear k nq;lia)
  | trace_state
  | trace_state
theorem two_nn0 {n:Int} (hn:-9007199254740992≤n∧n≤9007199254740992) {q:Int} (hq:q=0):Fn prog 144 [.int .i64 4,.agg (numV 0).enc,.agg (numV n).enc] [] [.agg (numV q).enc,.bool true] []:=by
 have k:=num_fn Opq.id q;have nq:q=IntKind.i64.wrap (0 * n):=by rw[Int.zero_mul,hq];rfl
 refine go (fn:=Proofs.Tryz.f144) (n:=140) (rv:=[ResultVar.cell 6 92,ResultVar.tmp 7]) rfl (by decide) rfl (by decide +kernel) rfl rfl (by simp) fun F L C=>?_
 cbv
 (repeat' first|(refine Named.atG q nq ?_;cbv)|(refine CallThen.mk _ _ (C.fn (k)) ?_;cbv)|(refine Br.t ?_ ?_;(focus first|assumption|lia);cbv)|(refine Br.f ?_ ?_;(focus first|assumption|lia);cbv)|(refine R0 ?_;cbv))
 all_goals first
  | exact⟨rfl,rfl,trivial⟩
  | exact⟨rfl,rfl,rfl,trivial⟩
  | exact⟨rfl,rfl,rfl,rfl,trivial⟩
  | exact⟨rfl,rfl,rfl,rfl,rfl,trivial⟩
  | exact⟨rfl,rfl,rfl,rfl,rfl,rfl,trivial⟩
  | (exfalso;clear k nq;lia)
  | trace_state
  | trace_state
theorem two_nnT {m n:Int} (hm:m≠0) {q r:Int} (hq:q=IntKind.i64.wrap (m * n)) (hr:r=IntKind.i64.wrap (q.tdiv m)) (h:r=n):Fn prog 144 [.int .i64 4,.agg (numV m).enc,.agg (numV n).enc] [] [.agg (numV q).enc,.bool true] []:=by
 have k:=num_fn Opq.id q
 refine go (fn:=Proofs.Tryz.f144) (n:=140) (rv:=[ResultVar.cell 6 92,ResultVar.tmp 7]) rfl (by decide) rfl (by decide +kernel) rfl rfl (by simp) fun F L C=>?_
 cbv
 (repeat' first|(refine Named.atG q hq ?_;cbv)|(refine Named.atG r hr ?_;cbv)|(refine CallThen.mk _ _ (C.fn (k)) ?_;cbv)|(refine Br.t ?_ ?_;(focus first|assumption|lia);cbv)|(refine Br.f ?_ ?_;(focus first|assumption|lia);cbv)|(refine Need.mk ?_ ?_;rotate_left;cbv)|(refine R0 ?_;cbv))
 all_goals first
  | exact⟨rfl,rfl,trivial⟩
  | exact⟨rfl,rfl,rfl,trivial⟩
  | exact⟨rfl,rfl,rfl,rfl,trivial⟩
  | exact⟨rfl,rfl,rfl,rfl,rfl,trivial⟩
  | exact⟨rfl,rfl,rfl,rfl,rfl,rfl,trivial⟩
  | (exfalso;clear k hq hr;lia)
  | exact hm
  | trace_state
theorem two_nnF {m n:Int} (hm:m≠0) {q r:Int} (hq:q=IntKind.i64.wrap (m * n)) (hr:r=IntKind.i64.wrap (q.tdiv m)) (h:¬ r=n):Fn prog 144 [.int .i64 4,.agg (numV m).enc,.agg (numV n).enc] [] [.agg (numV q).enc,.bool false] []:=by
 have k:=num_fn Opq.id q
 refine go (fn:=Proofs.Tryz.f144) (n:=140) (rv:=[ResultVar.cell 6 92,ResultVar.tmp 7]) rfl (by decide) rfl (by decide +kernel) rfl rfl (by simp) fun F L C=>?_
 cbv
 (repeat' first|(refine Named.atG q hq ?_;cbv)|(refine Named.atG r hr ?_;cbv)|(refine CallThen.mk _ _ (C.fn (k)) ?_;cbv)|(refine Br.t ?_ ?_;(focus first|assumption|lia);cbv)|(refine Br.f ?_ ?_;(focus first|assumption|lia);cbv)|(refine Need.mk ?_ ?_;rotate_left;cbv)|(refine R0 ?_;cbv))
 all_goals first
  | exact⟨rfl,rfl,trivial⟩
  | exact⟨rfl,rfl,rfl,trivial⟩
  | exact⟨rfl,rfl,rfl,rfl,trivial⟩
  | exact⟨rfl,rfl,rfl,rfl,rfl,trivial⟩
  | exact⟨rfl,rfl,rfl,rfl,rfl,rfl,trivial⟩
  | (exfalso;clear k hq hr;lia)
  | exact hm
  | trace_state
theorem two_np3 {n x y:Int}:Fn prog 144 [.int .i64 3,.agg (numV n).enc,.agg (pointV x y).enc] [] [.agg zeroV.enc,.bool false] []:=by
 skip
 refine go (fn:=Proofs.Tryz.f144) (n:=140) (rv:=[ResultVar.cell 6 92,ResultVar.tmp 7]) rfl (by decide) rfl (by decide +kernel) rfl rfl (by simp) fun F L C=>?_
 cbv
 (repeat' first|(refine Br.t ?_ ?_;(focus first|assumption|lia);cbv)|(refine Br.f ?_ ?_;(focus first|assumption|lia);cbv)|(refine R0 ?_;cbv))
 all_goals first
  | exact⟨rfl,rfl,trivial⟩
  | exact⟨rfl,rfl,rfl,trivial⟩
  | exact⟨rfl,rfl,rfl,rfl,trivial⟩
  | exact⟨rfl,rfl,rfl,rfl,rfl,trivial⟩
  | exact⟨rfl,rfl,rfl,rfl,rfl,rfl,trivial⟩
  | (exfalso;skip;lia)
  | trace_state
  | trace_state
theorem two_pn3 {n x y:Int}:Fn prog 144 [.int .i64 3,.agg (pointV x y).enc,.agg (numV n).enc] [] [.agg zeroV.enc,.bool false] []:=by
 skip
 refine go (fn:=Proofs.Tryz.f144) (n:=140) (rv:=[ResultVar.cell 6 92,ResultVar.tmp 7]) rfl (by decide) rfl (by decide +kernel) rfl rfl (by simp) fun F L C=>?_
 cbv
 (repeat' first|(refine Br.t ?_ ?_;(focus first|assumption|lia);cbv)|(refine Br.f ?_ ?_;(focus first|assumption|lia);cbv)|(refine R0 ?_;cbv))
 all_goals first
  | exact⟨rfl,rfl,trivial⟩
  | exact⟨rfl,rfl,rfl,trivial⟩
  | exact⟨rfl,rfl,rfl,rfl,trivial⟩
  | exact⟨rfl,rfl,rfl,rfl,rfl,trivial⟩
  | exact⟨rfl,rfl,rfl,rfl,rfl,rfl,trivial⟩
  | (exfalso;skip;lia)
  | trace_state
  | trace_state
end Go.Sym
