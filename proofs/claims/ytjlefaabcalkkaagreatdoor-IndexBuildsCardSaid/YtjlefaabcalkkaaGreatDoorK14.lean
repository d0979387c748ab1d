/- Values of expressions, the document's: turns, products (walks). -/
import Derived.Test.YtjlefaabcalkkaaGreatDoorK12
set_option linter.all false
set_option linter.unusedVariables false
set_option linter.unusedSimpArgs false
namespace Go.Sym
open Go Go.Proofs.Tryz
set_option maxRecDepth 100000
theorem rturn03_fn {a b c:Int} (h:gOk a b=true) (hc:c=-b):Fn prog 189 [.agg [.int .i64 a,.int .i64 b],.int .i64 1] [] [.agg [.int .i64 c,.int .i64 a]] []:=by
 obtain⟨q1,q2,q3,q4⟩:=gOk_iff.1 h
 have nc:c=IntKind.i64.wrap (0-b):=by rw[wrap64 (by omega)];omega
 obtain⟨z,hz⟩:∃ z:Nat,z=0:=⟨_,rfl⟩
 obtain⟨p,hp⟩:∃ p:Nat→Int,p=fun i=>if i=0 then a else c:=⟨_,rfl⟩
 obtain⟨q,hq⟩:∃ p:Nat→Int,p=fun i=>if i=0 then b else a:=⟨_,rfl⟩
 have pz:p z=a∧q z=b:=by rw[hp,hq,hz];exact⟨rfl,rfl⟩
 have p0:p 0=a∧q 0=b:=by rw[hp,hq];exact⟨rfl,rfl⟩
 have p1:p 1=c∧q 1=a:=by rw[hp,hq];exact⟨rfl,rfl⟩
 have t4:(4:Int)≠0:=by decide
 have m1:Int.tmod 1 4=1:=by decide
 clear h hp hq hc
 refine go (fn:=Proofs.Tryz.f189) (n:=22) (rv:=[ResultVar.cell 4 90]) rfl (by decide) rfl (by decide +kernel) rfl rfl (by simp) fun F L C=>?_
 cbv
 refine Need.mk t4 ?_
 cbv
 refine Named.atG 1 m1.symm ?_
 cbv
 clear m1 t4
 (repeat' first|(refine Br.f ?_ ?_;(focus first|assumption|lia);cbv))
 all_goals try(exfalso;lia)
 refine LoopThen.mk (C.loopAt (ι:=Nat) [(5,5),(12,22)] (fun i=>[(1,.int .i64 1),(5,.int .i64 i)]) (fun i=>[(256,.box [.int .i64 (p i),.int .i64 (q i)]),(384,.box [.int .i64 0,.int .i64 0])])
  (fun i=>i≤1) (fun i=>1-i) (by decide +kernel) (Start.mk z [] [] (show z≤1 by omega) ?_) ?_)
 ·cbv
  (repeat' apply And.intro)<;>first|exact True.intro|exact pz.1|exact pz.2|rfl|(clear nc;lia)|trace_state
 intro i g
 cbv
 have g1:i≤1:=g
 clear g
 obtain h0|h0:i=0∨i=1:=by omega
 ·have hpi:p i=a∧q i=b:=by rw[h0];exact p0
  have hP:∀ j,j=1→p j=c∧q j=a:=fun j hj=>by rw[hj];exact p1
  rw[hpi.1,hpi.2]
  clear pz p0 p1 hpi
  (repeat' first|(refine Named.atG c nc ?_;cbv)|(refine Br.t ?_ ?_;(focus(clear nc hP;lia));cbv)|(refine Na ?_ fun _ _=>?_;(focus(clear nc hP;lia));cbv)|(refine Back.up [] [] ?_ ?_ fun _ _=>?_;rotate_left 2;cbv;refine And.intro ?_ ?_))
  all_goals(repeat' apply And.intro)
  all_goals first
   | exact True.intro
   | exact(hP _ (by clear nc hP;lia)).1
   | exact(hP _ (by clear nc hP;lia)).2
   | rfl
   | (clear nc hP;lia)
   | trace_state
 ·have hpi:p i=c∧q i=a:=by rw[h0];exact p1
  rw[hpi.1,hpi.2]
  clear pz p0 p1 hpi nc
  (repeat' first|(refine Br.f ?_ ?_;(focus first|assumption|lia);cbv)|(refine R0 ?_;cbv))
  all_goals first
   | exact⟨rfl,rfl,trivial⟩
   | (exfalso;lia)
   | trace_state
theorem prod_big {a b x y:Int} (hx:x=if a<0 then -a else a) (hy:y=if b<0 then -b else b) (ha:-9007199254740992≤a∧a≤9007199254740992) (h0:x≠0) :
  (y > (9007199254740992:Int).tdiv x) ↔ ¬ (-9007199254740992≤a * b∧a * b≤9007199254740992):=by
 have hx':x=a.natAbs:=by rw[hx];split<;>omega
 have hy':y=b.natAbs:=by rw[hy];split<;>omega
 have hab:(a * b).natAbs=a.natAbs * b.natAbs:=Int.natAbs_mul a b
 have hpos:0<a.natAbs:=by omega
 rw[hx',hy']
 have e:(9007199254740992:Int).tdiv (a.natAbs:Int)=((9007199254740992 / a.natAbs:Nat):Int):=rfl
 rw[e]
 have k:9007199254740992 / a.natAbs<b.natAbs ↔ 9007199254740992<b.natAbs * a.natAbs:=Nat.div_lt_iff_lt_mul hpos
 rw[Nat.mul_comm] at k
 constructor
 ·intro h
  have:=k.1 (by omega)
  omega
 ·intro h
  have:9007199254740992<a.natAbs * b.natAbs:=by omega
  have:=k.2 this
  omega
theorem rmul_np {n x y g1 g2:Int} {B:Bool} (hp:gOk x y=true) (hB:gOk n 0=B) (e1:g1=n * x-0 * y) (e2:g2=n * y+0 * x) (ht:B=true):Fn prog 171 [.agg (numV n).enc,.agg (pointV x y).enc] [] [.agg (pointV g1 g2).enc,.bool true] []:=by
 subst ht;have k1:=ras_n n;rw[hB] at k1;have k2:=ras_p x y;have k3:=rmul03_fn hB hp e1 e2;have k4:=rpoint_fn g1 g2;clear hp hB e1 e2
 refine go (fn:=Proofs.Tryz.f171) (n:=66) (rv:=[ResultVar.cell 4 92,ResultVar.tmp 5]) rfl (by decide) rfl (by decide +kernel) rfl rfl (by simp) fun F L C=>?_
 cbv
 (repeat' first|(refine CallThen.mk _ _ (C.fn (k1)) ?_;cbv)|(refine CallThen.mk _ _ (C.fn (k2)) ?_;cbv)|(refine CallThen.mk _ _ (C.fn (k3)) ?_;cbv)|(refine CallThen.mk _ _ (C.fn (k4)) ?_;cbv)|(refine Br.t ?_ ?_;(focus first|assumption|lia);cbv)|(refine Br.f ?_ ?_;(focus first|assumption|lia);cbv)|(refine R0 ?_;cbv))
 all_goals first
  | exact⟨rfl,rfl,trivial⟩
  | exact⟨rfl,rfl,rfl,trivial⟩
  | exact trivial
  | (exfalso;clear k1 k2 k3 k4;lia)
  | trace_state
  | trace_state
theorem rmul_npF {n x y:Int} (hB:gOk n 0=false):Fn prog 171 [.agg (numV n).enc,.agg (pointV x y).enc] [] [.agg zeroV.enc,.bool false] []:=by
 have k1:=ras_n n;rw[hB] at k1;have k2:=ras_p x y;clear hB
 refine go (fn:=Proofs.Tryz.f171) (n:=66) (rv:=[ResultVar.cell 4 92,ResultVar.tmp 5]) rfl (by decide) rfl (by decide +kernel) rfl rfl (by simp) fun F L C=>?_
 cbv
 (repeat' first|(refine CallThen.mk _ _ (C.fn (k1)) ?_;cbv)|(refine CallThen.mk _ _ (C.fn (k2)) ?_;cbv)|(refine Br.t ?_ ?_;(focus first|assumption|lia);cbv)|(refine Br.f ?_ ?_;(focus first|assumption|lia);cbv)|(refine R0 ?_;cbv))
 all_goals first
  | exact⟨rfl,rfl,trivial⟩
  | exact⟨rfl,rfl,rfl,trivial⟩
  | exact trivial
  | (exfalso;clear k1 k2;lia)
  | trace_state
  | trace_state
theorem rmul_pn {n x y g1 g2:Int} (hp:gOk x y=true) (hB:gOk n 0=true) (e1:g1=x * n-y * 0) (e2:g2=x * 0+y * n):Fn prog 171 [.agg (pointV x y).enc,.agg (numV n).enc] [] [.agg (pointV g1 g2).enc,.bool true] []:=by
 have k1:=ras_n n;rw[hB] at k1;have k2:=ras_p x y;have k3:=rmul03_fn hp hB e1 e2;have k4:=rpoint_fn g1 g2;clear hp hB e1 e2
 refine go (fn:=Proofs.Tryz.f171) (n:=66) (rv:=[ResultVar.cell 4 92,ResultVar.tmp 5]) rfl (by decide) rfl (by decide +kernel) rfl rfl (by simp) fun F L C=>?_
 cbv
 (repeat' first|(refine CallThen.mk _ _ (C.fn (k1)) ?_;cbv)|(refine CallThen.mk _ _ (C.fn (k2)) ?_;cbv)|(refine CallThen.mk _ _ (C.fn (k3)) ?_;cbv)|(refine CallThen.mk _ _ (C.fn (k4)) ?_;cbv)|(refine Br.f ?_ ?_;(focus first|assumption|lia);cbv)|(refine R0 ?_;cbv))
 all_goals first
  | exact⟨rfl,rfl,trivial⟩
  | exact⟨rfl,rfl,rfl,trivial⟩
  | exact trivial
  | (exfalso;clear k1 k2 k3 k4;lia)
  | trace_state
  | trace_state
theorem rmul_pnF {n x y:Int} (hB:gOk n 0=false):Fn prog 171 [.agg (pointV x y).enc,.agg (numV n).enc] [] [.agg zeroV.enc,.bool false] []:=by
 have k1:=ras_n n;rw[hB] at k1;have k2:=ras_p x y;clear hB
 refine go (fn:=Proofs.Tryz.f171) (n:=66) (rv:=[ResultVar.cell 4 92,ResultVar.tmp 5]) rfl (by decide) rfl (by decide +kernel) rfl rfl (by simp) fun F L C=>?_
 cbv
 (repeat' first|(refine CallThen.mk _ _ (C.fn (k1)) ?_;cbv)|(refine CallThen.mk _ _ (C.fn (k2)) ?_;cbv)|(refine Br.f ?_ ?_;(focus first|assumption|lia);cbv)|(refine R0 ?_;cbv))
 all_goals first
  | exact⟨rfl,rfl,trivial⟩
  | exact⟨rfl,rfl,rfl,trivial⟩
  | exact trivial
  | (exfalso;clear k1 k2;lia)
  | trace_state
  | trace_state
theorem rmul_pp {u v x y g1 g2:Int} (hp:gOk x y=true) (hB:gOk u v=true) (e1:g1=x * u-y * v) (e2:g2=x * v+y * u):Fn prog 171 [.agg (pointV x y).enc,.agg (pointV u v).enc] [] [.agg (pointV g1 g2).enc,.bool true] []:=by
 have k1:=ras_p u v;have k2:=ras_p x y;have k3:=rmul03_fn hp hB e1 e2;have k4:=rpoint_fn g1 g2;clear hp hB e1 e2
 refine go (fn:=Proofs.Tryz.f171) (n:=66) (rv:=[ResultVar.cell 4 92,ResultVar.tmp 5]) rfl (by decide) rfl (by decide +kernel) rfl rfl (by simp) fun F L C=>?_
 cbv
 (repeat' first|(refine CallThen.mk _ _ (C.fn (k1)) ?_;cbv)|(refine CallThen.mk _ _ (C.fn (k2)) ?_;cbv)|(refine CallThen.mk _ _ (C.fn (k3)) ?_;cbv)|(refine CallThen.mk _ _ (C.fn (k4)) ?_;cbv)|(refine Br.f ?_ ?_;(focus first|assumption|lia);cbv)|(refine R0 ?_;cbv))
 all_goals first
  | exact⟨rfl,rfl,trivial⟩
  | exact⟨rfl,rfl,rfl,trivial⟩
  | exact trivial
  | (exfalso;clear k1 k2 k3 k4;lia)
  | trace_state
  | trace_state
theorem rmul_tt {s t:ByteArray}:Fn prog 171 [.agg (textV s).enc,.agg (textV t).enc] [] [.agg zeroV.enc,.bool false] []:=by
 have k1:=ras_t s;have k2:=ras_t t
 refine go (fn:=Proofs.Tryz.f171) (n:=66) (rv:=[ResultVar.cell 4 92,ResultVar.tmp 5]) rfl (by decide) rfl (by decide +kernel) rfl rfl (by simp) fun F L C=>?_
 cbv
 (repeat' first|(refine CallThen.mk _ _ (C.fn (k1)) ?_;cbv)|(refine CallThen.mk _ _ (C.fn (k2)) ?_;cbv)|(refine Br.f ?_ ?_;(focus first|assumption|lia);cbv)|(refine R0 ?_;cbv))
 all_goals first
  | exact⟨rfl,rfl,trivial⟩
  | exact⟨rfl,rfl,rfl,trivial⟩
  | exact trivial
  | (exfalso;clear k1 k2;lia)
  | trace_state
  | trace_state
theorem rmul_tn {s:ByteArray} {n:Int} {B:Bool} (hB:gOk n 0=B):Fn prog 171 [.agg (textV s).enc,.agg (numV n).enc] [] [.agg zeroV.enc,.bool false] []:=by
 have k1:=ras_t s;have k2:=ras_n n;rw[hB] at k2;clear hB
 refine go (fn:=Proofs.Tryz.f171) (n:=66) (rv:=[ResultVar.cell 4 92,ResultVar.tmp 5]) rfl (by decide) rfl (by decide +kernel) rfl rfl (by simp) fun F L C=>?_
 cbv
 (repeat' first|(refine CallThen.mk _ _ (C.fn (k1)) ?_;cbv)|(refine CallThen.mk _ _ (C.fn (k2)) ?_;cbv)|(refine Br.f ?_ ?_;(focus first|assumption|lia);cbv)|(refine R0 ?_;cbv))
 all_goals first
  | exact⟨rfl,rfl,trivial⟩
  | exact⟨rfl,rfl,rfl,trivial⟩
  | exact trivial
  | (exfalso;clear k1 k2;lia)
  | trace_state
  | trace_state
theorem rmul_ntT {s:ByteArray} {n:Int} (hB:gOk n 0=true):Fn prog 171 [.agg (numV n).enc,.agg (textV s).enc] [] [.agg zeroV.enc,.bool false] []:=by
 have k1:=ras_t s;have k2:=ras_n n;rw[hB] at k2;clear hB
 refine go (fn:=Proofs.Tryz.f171) (n:=66) (rv:=[ResultVar.cell 4 92,ResultVar.tmp 5]) rfl (by decide) rfl (by decide +kernel) rfl rfl (by simp) fun F L C=>?_
 cbv
 (repeat' first|(refine CallThen.mk _ _ (C.fn (k1)) ?_;cbv)|(refine CallThen.mk _ _ (C.fn (k2)) ?_;cbv)|(refine Br.t ?_ ?_;(focus first|assumption|lia);cbv)|(refine Br.f ?_ ?_;(focus first|assumption|lia);cbv)|(refine R0 ?_;cbv))
 all_goals first
  | exact⟨rfl,rfl,trivial⟩
  | exact⟨rfl,rfl,rfl,trivial⟩
  | exact trivial
  | (exfalso;clear k1 k2;lia)
  | trace_state
  | trace_state
theorem rmul_ntF {s:ByteArray} {n:Int} (hB:gOk n 0=false):Fn prog 171 [.agg (numV n).enc,.agg (textV s).enc] [] [.agg zeroV.enc,.bool false] []:=by
 have k1:=ras_t s;have k2:=ras_n n;rw[hB] at k2;clear hB
 refine go (fn:=Proofs.Tryz.f171) (n:=66) (rv:=[ResultVar.cell 4 92,ResultVar.tmp 5]) rfl (by decide) rfl (by decide +kernel) rfl rfl (by simp) fun F L C=>?_
 cbv
 (repeat' first|(refine CallThen.mk _ _ (C.fn (k1)) ?_;cbv)|(refine CallThen.mk _ _ (C.fn (k2)) ?_;cbv)|(refine Br.t ?_ ?_;(focus first|assumption|lia);cbv)|(refine Br.f ?_ ?_;(focus first|assumption|lia);cbv)|(refine R0 ?_;cbv))
 all_goals first
  | exact⟨rfl,rfl,trivial⟩
  | exact⟨rfl,rfl,rfl,trivial⟩
  | exact trivial
  | (exfalso;clear k1 k2;lia)
  | trace_state
  | trace_state
theorem rmul_tp {s:ByteArray} {x y:Int}:Fn prog 171 [.agg (textV s).enc,.agg (pointV x y).enc] [] [.agg zeroV.enc,.bool false] []:=by
 have k1:=ras_t s;have k2:=ras_p x y
 refine go (fn:=Proofs.Tryz.f171) (n:=66) (rv:=[ResultVar.cell 4 92,ResultVar.tmp 5]) rfl (by decide) rfl (by decide +kernel) rfl rfl (by simp) fun F L C=>?_
 cbv
 (repeat' first|(refine CallThen.mk _ _ (C.fn (k1)) ?_;cbv)|(refine CallThen.mk _ _ (C.fn (k2)) ?_;cbv)|(refine Br.f ?_ ?_;(focus first|assumption|lia);cbv)|(refine R0 ?_;cbv))
 all_goals first
  | exact⟨rfl,rfl,trivial⟩
  | exact⟨rfl,rfl,rfl,trivial⟩
  | exact trivial
  | (exfalso;clear k1 k2;lia)
  | trace_state
  | trace_state
theorem rmul_pt {s:ByteArray} {x y:Int}:Fn prog 171 [.agg (pointV x y).enc,.agg (textV s).enc] [] [.agg zeroV.enc,.bool false] []:=by
 have k1:=ras_t s;have k2:=ras_p x y
 refine go (fn:=Proofs.Tryz.f171) (n:=66) (rv:=[ResultVar.cell 4 92,ResultVar.tmp 5]) rfl (by decide) rfl (by decide +kernel) rfl rfl (by simp) fun F L C=>?_
 cbv
 (repeat' first|(refine CallThen.mk _ _ (C.fn (k1)) ?_;cbv)|(refine CallThen.mk _ _ (C.fn (k2)) ?_;cbv)|(refine Br.f ?_ ?_;(focus first|assumption|lia);cbv)|(refine R0 ?_;cbv))
 all_goals first
  | exact⟨rfl,rfl,trivial⟩
  | exact⟨rfl,rfl,rfl,trivial⟩
  | exact trivial
  | (exfalso;clear k1 k2;lia)
  | trace_state
  | trace_state
theorem rmul_nnNN {a b X Y:Int} (sa:a<0) (nX:X=IntKind.i64.wrap (0-a)) (sb:b<0) (nY:Y=IntKind.i64.wrap (0-b)) {Q:Int} (nQ:Q=IntKind.i64.wrap (Int.tdiv 9007199254740992 X)) (hX:¬ X=0→¬ Q<Y) {q:Int} (nq:q=IntKind.i64.wrap (a * b)):Fn prog 171 [.agg (numV a).enc,.agg (numV b).enc] [] [.agg (numV q).enc,.bool true] []:=by
 have k1:=rnumX_fn q
 refine go (fn:=Proofs.Tryz.f171) (n:=66) (rv:=[ResultVar.cell 4 92,ResultVar.tmp 5]) rfl (by decide) rfl (by decide +kernel) rfl rfl (by simp) fun F L C=>?_
 cbv
 (repeat' first|(refine Named.atG X nX ?_;cbv)|(refine Named.atG Y nY ?_;cbv)|(refine Named.atG Q nQ ?_;cbv)|(refine Named.atG q nq ?_;cbv)|(refine CallThen.mk _ _ (C.fn (k1)) ?_;cbv)|(refine Br.t ?_ ?_;(focus first|assumption|lia);cbv)|(refine Br.f ?_ ?_;(focus first|assumption|lia);cbv)|(refine Br.mk (fun _=>?_) (fun _=>?_)<;>cbv)|(refine Need.mk ?_ ?_;rotate_left;cbv)|(refine R0 ?_;cbv))
 all_goals first
  | exact⟨rfl,rfl,trivial⟩
  | exact⟨rfl,rfl,rfl,trivial⟩
  | exact trivial
  | (exfalso;clear k1 nq nQ nX nY;lia)
  | assumption
  | trace_state
theorem rmul_nnFNN {a b X Y:Int} (sa:a<0) (nX:X=IntKind.i64.wrap (0-a)) (sb:b<0) (nY:Y=IntKind.i64.wrap (0-b)) {Q:Int} (nQ:Q=IntKind.i64.wrap (Int.tdiv 9007199254740992 X)) (h0:¬ X=0) (hX:Q<Y):Fn prog 171 [.agg (numV a).enc,.agg (numV b).enc] [] [.agg zeroV.enc,.bool false] []:=by
 skip
 refine go (fn:=Proofs.Tryz.f171) (n:=66) (rv:=[ResultVar.cell 4 92,ResultVar.tmp 5]) rfl (by decide) rfl (by decide +kernel) rfl rfl (by simp) fun F L C=>?_
 cbv
 (repeat' first|(refine Named.atG X nX ?_;cbv)|(refine Named.atG Y nY ?_;cbv)|(refine Named.atG Q nQ ?_;cbv)|(refine Br.t ?_ ?_;(focus first|assumption|lia);cbv)|(refine Br.f ?_ ?_;(focus first|assumption|lia);cbv)|(refine Need.mk ?_ ?_;rotate_left;cbv)|(refine R0 ?_;cbv))
 all_goals first
  | exact⟨rfl,rfl,trivial⟩
  | exact⟨rfl,rfl,rfl,trivial⟩
  | exact trivial
  | (exfalso;clear nQ nX nY;lia)
  | assumption
  | trace_state
theorem rmul_nnNP {a b X:Int} (sa:a<0) (nX:X=IntKind.i64.wrap (0-a)) (sb:¬ b<0) {Q:Int} (nQ:Q=IntKind.i64.wrap (Int.tdiv 9007199254740992 X)) (hX:¬ X=0→¬ Q<b) {q:Int} (nq:q=IntKind.i64.wrap (a * b)):Fn prog 171 [.agg (numV a).enc,.agg (numV b).enc] [] [.agg (numV q).enc,.bool true] []:=by
 have k1:=rnumX_fn q
 refine go (fn:=Proofs.Tryz.f171) (n:=66) (rv:=[ResultVar.cell 4 92,ResultVar.tmp 5]) rfl (by decide) rfl (by decide +kernel) rfl rfl (by simp) fun F L C=>?_
 cbv
 (repeat' first|(refine Named.atG X nX ?_;cbv)|(refine Named.atG Q nQ ?_;cbv)|(refine Named.atG q nq ?_;cbv)|(refine CallThen.mk _ _ (C.fn (k1)) ?_;cbv)|(refine Br.t ?_ ?_;(focus first|assumption|lia);cbv)|(refine Br.f ?_ ?_;(focus first|assumption|lia);cbv)|(refine Br.mk (fun _=>?_) (fun _=>?_)<;>cbv)|(refine Need.mk ?_ ?_;rotate_left;cbv)|(refine R0 ?_;cbv))
 all_goals first
  | exact⟨rfl,rfl,trivial⟩
  | exact⟨rfl,rfl,rfl,trivial⟩
  | exact trivial
  | (exfalso;clear k1 nq nQ nX;lia)
  | assumption
  | trace_state
theorem rmul_nnFNP {a b X:Int} (sa:a<0) (nX:X=IntKind.i64.wrap (0-a)) (sb:¬ b<0) {Q:Int} (nQ:Q=IntKind.i64.wrap (Int.tdiv 9007199254740992 X)) (h0:¬ X=0) (hX:Q<b):Fn prog 171 [.agg (numV a).enc,.agg (numV b).enc] [] [.agg zeroV.enc,.bool false] []:=by
 skip
 refine go (fn:=Proofs.Tryz.f171) (n:=66) (rv:=[ResultVar.cell 4 92,ResultVar.tmp 5]) rfl (by decide) rfl (by decide +kernel) rfl rfl (by simp) fun F L C=>?_
 cbv
 (repeat' first|(refine Named.atG X nX ?_;cbv)|(refine Named.atG Q nQ ?_;cbv)|(refine Br.t ?_ ?_;(focus first|assumption|lia);cbv)|(refine Br.f ?_ ?_;(focus first|assumption|lia);cbv)|(refine Need.mk ?_ ?_;rotate_left;cbv)|(refine R0 ?_;cbv))
 all_goals first
  | exact⟨rfl,rfl,trivial⟩
  | exact⟨rfl,rfl,rfl,trivial⟩
  | exact trivial
  | (exfalso;clear nQ nX;lia)
  | assumption
  | trace_state
theorem rmul_nnPN {a b Y:Int} (sa:¬ a<0) (sb:b<0) (nY:Y=IntKind.i64.wrap (0-b)) {Q:Int} (nQ:Q=IntKind.i64.wrap (Int.tdiv 9007199254740992 a)) (hX:¬ a=0→¬ Q<Y) {q:Int} (nq:q=IntKind.i64.wrap (a * b)):Fn prog 171 [.agg (numV a).enc,.agg (numV b).enc] [] [.agg (numV q).enc,.bool true] []:=by
 have k1:=rnumX_fn q
 refine go (fn:=Proofs.Tryz.f171) (n:=66) (rv:=[ResultVar.cell 4 92,ResultVar.tmp 5]) rfl (by decide) rfl (by decide +kernel) rfl rfl (by simp) fun F L C=>?_
 cbv
 (repeat' first|(refine Named.atG Y nY ?_;cbv)|(refine Named.atG Q nQ ?_;cbv)|(refine Named.atG q nq ?_;cbv)|(refine CallThen.mk _ _ (C.fn (k1)) ?_;cbv)|(refine Br.t ?_ ?_;(focus first|assumption|lia);cbv)|(refine Br.f ?_ ?_;(focus first|assumption|lia);cbv)|(refine Br.mk (fun _=>?_) (fun _=>?_)<;>cbv)|(refine Need.mk ?_ ?_;rotate_left;cbv)|(refine R0 ?_;cbv))
 all_goals first
  | exact⟨rfl,rfl,trivial⟩
  | exact⟨rfl,rfl,rfl,trivial⟩
  | exact trivial
  | (exfalso;clear k1 nq nQ nY;lia)
  | assumption
  | trace_state
theorem rmul_nnFPN {a b Y:Int} (sa:¬ a<0) (sb:b<0) (nY:Y=IntKind.i64.wrap (0-b)) {Q:Int} (nQ:Q=IntKind.i64.wrap (Int.tdiv 9007199254740992 a)) (h0:¬ a=0) (hX:Q<Y):Fn prog 171 [.agg (numV a).enc,.agg (numV b).enc] [] [.agg zeroV.enc,.bool false] []:=by
 skip
 refine go (fn:=Proofs.Tryz.f171) (n:=66) (rv:=[ResultVar.cell 4 92,ResultVar.tmp 5]) rfl (by decide) rfl (by decide +kernel) rfl rfl (by simp) fun F L C=>?_
 cbv
 (repeat' first|(refine Named.atG Y nY ?_;cbv)|(refine Named.atG Q nQ ?_;cbv)|(refine Br.t ?_ ?_;(focus first|assumption|lia);cbv)|(refine Br.f ?_ ?_;(focus first|assumption|lia);cbv)|(refine Need.mk ?_ ?_;rotate_left;cbv)|(refine R0 ?_;cbv))
 all_goals first
  | exact⟨rfl,rfl,trivial⟩
  | exact⟨rfl,rfl,rfl,trivial⟩
  | exact trivial
  | (exfalso;clear nQ nY;lia)
  | assumption
  | trace_state
theorem rmul_nnPP {a b:Int} (sa:¬ a<0) (sb:¬ b<0) {Q:Int} (nQ:Q=IntKind.i64.wrap (Int.tdiv 9007199254740992 a)) (hX:¬ a=0→¬ Q<b) {q:Int} (nq:q=IntKind.i64.wrap (a * b)):Fn prog 171 [.agg (numV a).enc,.agg (numV b).enc] [] [.agg (numV q).enc,.bool true] []:=by
 have k1:=rnumX_fn q
 refine go (fn:=Proofs.Tryz.f171) (n:=66) (rv:=[ResultVar.cell 4 92,ResultVar.tmp 5]) rfl (by decide) rfl (by decide +kernel) rfl rfl (by simp) fun F L C=>?_
 cbv
 (repeat' first|(refine Named.atG Q nQ ?_;cbv)|(refine Named.atG q nq ?_;cbv)|(refine CallThen.mk _ _ (C.fn (k1)) ?_;cbv)|(refine Br.t ?_ ?_;(focus first|assumption|lia);cbv)|(refine Br.f ?_ ?_;(focus first|assumption|lia);cbv)|(refine Br.mk (fun _=>?_) (fun _=>?_)<;>cbv)|(refine Need.mk ?_ ?_;rotate_left;cbv)|(refine R0 ?_;cbv))
 all_goals first
  | exact⟨rfl,rfl,trivial⟩
  | exact⟨rfl,rfl,rfl,trivial⟩
  | exact trivial
  | (exfalso;clear k1 nq nQ;lia)
  | assumption
  | trace_state
theorem rmul_nnFPP {a b:Int} (sa:¬ a<0) (sb:¬ b<0) {Q:Int} (nQ:Q=IntKind.i64.wrap (Int.tdiv 9007199254740992 a)) (h0:¬ a=0) (hX:Q<b):Fn prog 171 [.agg (numV a).enc,.agg (numV b).enc] [] [.agg zeroV.enc,.bool false] []:=by
 skip
 refine go (fn:=Proofs.Tryz.f171) (n:=66) (rv:=[ResultVar.cell 4 92,ResultVar.tmp 5]) rfl (by decide) rfl (by decide +kernel) rfl rfl (by simp) fun F L C=>?_
 cbv
 (repeat' first|(refine Named.atG Q nQ ?_;cbv)|(refine Br.t ?_ ?_;(focus first|assumption|lia);cbv)|(refine Br.f ?_ ?_;(focus first|assumption|lia);cbv)|(refine Need.mk ?_ ?_;rotate_left;cbv)|(refine R0 ?_;cbv))
 all_goals first
  | exact⟨rfl,rfl,trivial⟩
  | exact⟨rfl,rfl,rfl,trivial⟩
  | exact trivial
  | (exfalso;clear nQ;lia)
  | assumption
  | trace_state
theorem rmul_num {a b:Int} (ha:-9007199254740992≤a∧a≤9007199254740992) (hb:-9007199254740992≤b∧b≤9007199254740992) :
  ∃ r B,Fn prog 171 [.agg (numV a).enc,.agg (numV b).enc] [] [.agg (Val.enc r),.bool B] []∧okV (some (numV (a * b)))=okBv B r:=by
 obtain⟨X,hX⟩:∃ X,X=if a<0 then -a else a:=⟨_,rfl⟩
 obtain⟨Y,hY⟩:∃ Y,Y=if b<0 then -b else b:=⟨_,rfl⟩
 obtain⟨Q,nQ⟩:∃ Q,Q=IntKind.i64.wrap (Int.tdiv 9007199254740992 X):=⟨_,rfl⟩
 have hXn:X=a.natAbs:=by rw[hX];split<;>omega
 have hQ:Q=Int.tdiv 9007199254740992 X:=by
  rw[nQ,hXn]
  have e:(9007199254740992:Int).tdiv (a.natAbs:Int)=((9007199254740992 / a.natAbs:Nat):Int):=rfl
  rw[e]
  have:=Nat.div_le_self 9007199254740992 a.natAbs
  obtain⟨d,hd⟩:∃ d:Nat,d=9007199254740992 / a.natAbs:=⟨_,rfl⟩
  rw[← hd] at this ⊢
  exact wrap64 (by omega)
 obtain⟨q,nq⟩:∃ q,q=IntKind.i64.wrap (a * b):=⟨_,rfl⟩
 have fit:(¬ X=0→¬ Q<Y)→okV (some (numV (a * b)))=okBv true (numV q):=by
  intro h
  have hf:-9007199254740992≤a * b∧a * b≤9007199254740992:=by
   by_cases h0:X=0
   ·have:a=0:=by omega
    subst this;rw[Int.zero_mul];decide
   ·have:=not_congr (prod_big hX hY ha h0)
    rw[Classical.not_not] at this
    exact this.1 (by have:=h h0;rw[hQ] at this;exact this)
  rw[nq,wrap64 (by omega)]
  exact okV_is rfl
 have big:¬ X=0→Q<Y→okV (some (numV (a * b)))=okBv false zeroV:=by
  intro h0 h
  refine okV_not (okV_bad fun k=>?_)
  exact(prod_big hX hY ha h0).1 (by rw[← hQ];exact h) (numV_ok.1 k)
 by_cases hc:¬ X=0∧Q<Y
 ·have hv:=big hc.1 hc.2
  by_cases sa:a<0<;>by_cases sb:b<0
  ·rw[if_pos sa] at hX;rw[if_pos sb] at hY
   exact⟨_,_,rmul_nnFNN sa (by rw[hX,wrap64 (by omega)];omega) sb (by rw[hY,wrap64 (by omega)];omega) nQ hc.1 hc.2,hv⟩
  ·rw[if_pos sa] at hX;rw[if_neg sb] at hY;subst hY
   exact⟨_,_,rmul_nnFNP sa (by rw[hX,wrap64 (by omega)];omega) sb nQ hc.1 hc.2,hv⟩
  ·rw[if_neg sa] at hX;rw[if_pos sb] at hY;subst hX
   exact⟨_,_,rmul_nnFPN sa sb (by rw[hY,wrap64 (by omega)];omega) nQ hc.1 hc.2,hv⟩
  ·rw[if_neg sa] at hX;rw[if_neg sb] at hY;subst hX;subst hY
   exact⟨_,_,rmul_nnFPP sa sb nQ hc.1 hc.2,hv⟩
 ·have hn:¬ X=0→¬ Q<Y:=fun h k=>hc ⟨h,k⟩
  have hv:=fit hn
  by_cases sa:a<0<;>by_cases sb:b<0
  ·rw[if_pos sa] at hX;rw[if_pos sb] at hY
   exact⟨_,_,rmul_nnNN sa (by rw[hX,wrap64 (by omega)];omega) sb (by rw[hY,wrap64 (by omega)];omega) nQ hn nq,hv⟩
  ·rw[if_pos sa] at hX;rw[if_neg sb] at hY;subst hY
   exact⟨_,_,rmul_nnNP sa (by rw[hX,wrap64 (by omega)];omega) sb nQ hn nq,hv⟩
  ·rw[if_neg sa] at hX;rw[if_pos sb] at hY;subst hX
   exact⟨_,_,rmul_nnPN sa sb (by rw[hY,wrap64 (by omega)];omega) nQ hn nq,hv⟩
  ·rw[if_neg sa] at hX;rw[if_neg sb] at hY;subst hX;subst hY
   exact⟨_,_,rmul_nnPP sa sb nQ hn nq,hv⟩
theorem rmul_all {a b : Val} (ha : a.Ok) (hb : b.Ok) : ∃ r B, Fn prog 171 [.agg a.enc, .agg b.enc] [] [.agg (Val.enc r), .bool B] [] ∧ okV (twoO 4 a b) = okBv B r := by
  rcases val_cases ha with ⟨m, rfl, hm⟩ | ⟨x, y, rfl, hp⟩ | ⟨s, rfl, hs⟩
  · rcases val_cases hb with ⟨n, rfl, hn⟩ | ⟨u, v, rfl, hq⟩ | ⟨t, rfl, ht⟩
    · have e : twoO 4 (numV m) (numV n) = some (numV (m * n)) := by simp [twoO, numV]
      rw [e]
      exact rmul_num hm hn
    · cases ho : gOk m 0
      · exact ⟨_, _, rmul_npF ho, okV_not (by simp [twoO, numV, pointV, asP, ho, okV])⟩
      · exact ⟨_, _, rmul_np hq ho rfl rfl rfl, okV_is (by simp [twoO, numV, pointV, asP, ho, mulP])⟩
    · cases ho : gOk m 0
      · exact ⟨_, _, rmul_ntF ho, okV_not (by simp [twoO, numV, textV, okV])⟩
      · exact ⟨_, _, rmul_ntT ho, okV_not (by simp [twoO, numV, textV, okV])⟩
  · rcases val_cases hb with ⟨n, rfl, hn⟩ | ⟨u, v, rfl, hq⟩ | ⟨t, rfl, ht⟩
    · cases ho : gOk n 0
      · exact ⟨_, _, rmul_pnF ho, okV_not (by simp [twoO, numV, pointV, asP, ho, okV])⟩
      · exact ⟨_, _, rmul_pn hp ho rfl rfl, okV_is (by simp [twoO, numV, pointV, asP, ho, mulP])⟩
    · exact ⟨_, _, rmul_pp hp hq rfl rfl, okV_is (by simp [twoO, pointV, asP, mulP])⟩
    · exact ⟨_, _, rmul_pt, okV_not (by simp [twoO, pointV, textV, okV])⟩
  · rcases val_cases hb with ⟨n, rfl, hn⟩ | ⟨u, v, rfl, hq⟩ | ⟨t, rfl, ht⟩
    · exact ⟨_, _, rmul_tn rfl, okV_not (by simp [twoO, numV, textV, okV])⟩
    · exact ⟨_, _, rmul_tp, okV_not (by simp [twoO, pointV, textV, okV])⟩
    · exact ⟨_, _, rmul_tt, okV_not (by simp [twoO, textV, okV])⟩
/-! ### Calls -/
theorem rcall_norm {x y q:Int} (hv:gOk x y=true) (hq:q=x * x+y * y):Fn prog 174 [.str bNorm,.agg (pointV x y).enc] [] [.agg (numV q).enc,.bool true] []:=by
 have k1:=rnorm03_fn hv hq;have k2:=rnumX_fn q;clear hv hq
 refine go (fn:=Proofs.Tryz.f174) (n:=82) (rv:=[ResultVar.cell 4 92,ResultVar.tmp 5]) rfl (by decide) rfl (by decide +kernel) rfl rfl (by simp) fun F L C=>?_
 cbv
 (repeat' first|(refine CallThen.mk _ _ (C.fn (k1)) ?_;cbv)|(refine CallThen.mk _ _ (C.fn (k2)) ?_;cbv)|(refine Br.t ?_ ?_;(focus first|assumption|lia);cbv)|(refine R0 ?_;cbv))
 all_goals first
  | exact⟨rfl,rfl,trivial⟩
  | exact⟨rfl,rfl,rfl,trivial⟩
  | exact⟨rfl,rfl,rfl,rfl,rfl,rfl,trivial⟩
  | exact trivial
  | (exfalso;clear k1 k2;lia)
  | trace_state
  | trace_state
theorem rcall_conj {x y q:Int} (hv:gOk x y=true) (hq:q=-y):Fn prog 174 [.str bConj,.agg (pointV x y).enc] [] [.agg (pointV x q).enc,.bool true] []:=by
 have nq:q=IntKind.i64.wrap (0-y):=by { have:=gOk_iff.1 hv;rw[wrap64 (by omega)];omega };have k2:=rpoint_fn x q;clear hv hq
 refine go (fn:=Proofs.Tryz.f174) (n:=82) (rv:=[ResultVar.cell 4 92,ResultVar.tmp 5]) rfl (by decide) rfl (by decide +kernel) rfl rfl (by simp) fun F L C=>?_
 cbv
 (repeat' first|(refine Named.atG q nq ?_;cbv)|(refine CallThen.mk _ _ (C.fn (k2)) ?_;cbv)|(refine Br.t ?_ ?_;(focus first|assumption|lia);cbv)|(refine Br.f ?_ ?_;(focus first|assumption|lia);cbv)|(refine R0 ?_;cbv))
 all_goals first
  | exact⟨rfl,rfl,trivial⟩
  | exact⟨rfl,rfl,rfl,trivial⟩
  | exact⟨rfl,rfl,rfl,rfl,rfl,rfl,trivial⟩
  | exact trivial
  | (exfalso;clear nq k2;lia)
  | trace_state
  | trace_state
theorem rcall_turn {x y q:Int} (hv:gOk x y=true) (hq:q=-y):Fn prog 174 [.str bTurn,.agg (pointV x y).enc] [] [.agg (pointV q x).enc,.bool true] []:=by
 have k1:=rturn03_fn hv hq;have k2:=rpoint_fn q x;clear hv hq
 refine go (fn:=Proofs.Tryz.f174) (n:=82) (rv:=[ResultVar.cell 4 92,ResultVar.tmp 5]) rfl (by decide) rfl (by decide +kernel) rfl rfl (by simp) fun F L C=>?_
 cbv
 (repeat' first|(refine CallThen.mk _ _ (C.fn (k1)) ?_;cbv)|(refine CallThen.mk _ _ (C.fn (k2)) ?_;cbv)|(refine Br.t ?_ ?_;(focus first|assumption|lia);cbv)|(refine Br.f ?_ ?_;(focus first|assumption|lia);cbv)|(refine R0 ?_;cbv))
 all_goals first
  | exact⟨rfl,rfl,trivial⟩
  | exact⟨rfl,rfl,rfl,trivial⟩
  | exact⟨rfl,rfl,rfl,rfl,rfl,rfl,trivial⟩
  | exact trivial
  | (exfalso;clear k1 k2;lia)
  | trace_state
  | trace_state
theorem rcall_headE {t:ByteArray} (ht:t=ByteArray.empty):Fn prog 174 [.str bHead,.agg (textV t).enc] [] [.agg (textV t).enc,.bool true] []:=by
 skip
 refine go (fn:=Proofs.Tryz.f174) (n:=82) (rv:=[ResultVar.cell 4 92,ResultVar.tmp 5]) rfl (by decide) rfl (by decide +kernel) rfl rfl (by simp) fun F L C=>?_
 cbv
 (repeat' first|(refine Br.t ?_ ?_;(focus first|assumption|lia);cbv)|(refine Br.f ?_ ?_;(focus first|assumption|lia);cbv)|(refine R0 ?_;cbv))
 all_goals first
  | exact⟨rfl,rfl,trivial⟩
  | exact⟨rfl,rfl,rfl,trivial⟩
  | exact⟨rfl,rfl,rfl,rfl,rfl,rfl,trivial⟩
  | exact trivial
  | (exfalso;skip;lia)
  | trace_state
  | trace_state
theorem rcall_head1 {t S:ByteArray} (ht:¬ t=ByteArray.empty) (hs:1≤t.size) (hS:S=t.extract 0 1):Fn prog 174 [.str bHead,.agg (textV t).enc] [] [.agg (textV S).enc,.bool true] []:=by
 have k2:=rtext_fn S
 refine go (fn:=Proofs.Tryz.f174) (n:=82) (rv:=[ResultVar.cell 4 92,ResultVar.tmp 5]) rfl (by decide) rfl (by decide +kernel) rfl rfl (by simp) fun F L C=>?_
 cbv
 (repeat' first|(refine Named.atG S hS ?_;cbv)|(refine CallThen.mk _ _ (C.fn (k2)) ?_;cbv)|(refine Br.t ?_ ?_;(focus first|assumption|lia);cbv)|(refine Br.f ?_ ?_;(focus first|assumption|lia);cbv)|(refine Need.mk ?_ ?_;rotate_left;cbv)|(refine R0 ?_;cbv))
 all_goals first
  | exact⟨rfl,rfl,trivial⟩
  | exact⟨rfl,rfl,rfl,trivial⟩
  | exact⟨rfl,rfl,rfl,rfl,rfl,rfl,trivial⟩
  | exact trivial
  | (exfalso;clear k2 hS;lia)
  | (clear k2 hS;lia)
  | trace_state
theorem rcall_n {n:Int} {w:ByteArray}:Fn prog 174 [.str w,.agg (numV n).enc] [] [.agg zeroV.enc,.bool false] []:=by
 skip
 refine go (fn:=Proofs.Tryz.f174) (n:=82) (rv:=[ResultVar.cell 4 92,ResultVar.tmp 5]) rfl (by decide) rfl (by decide +kernel) rfl rfl (by simp) fun F L C=>?_
 cbv
 (repeat' first|(refine Br.f ?_ ?_;(focus first|assumption|lia);cbv)|(refine R0 ?_;cbv))
 all_goals first
  | exact⟨rfl,rfl,trivial⟩
  | exact⟨rfl,rfl,rfl,trivial⟩
  | exact⟨rfl,rfl,rfl,rfl,rfl,rfl,trivial⟩
  | exact trivial
  | (exfalso;skip;lia)
  | trace_state
  | trace_state
theorem rcall_pLow {x y:Int}:Fn prog 174 [.str bLow,.agg (pointV x y).enc] [] [.agg zeroV.enc,.bool false] []:=by
 skip
 refine go (fn:=Proofs.Tryz.f174) (n:=82) (rv:=[ResultVar.cell 4 92,ResultVar.tmp 5]) rfl (by decide) rfl (by decide +kernel) rfl rfl (by simp) fun F L C=>?_
 cbv
 (repeat' first|(refine Br.t ?_ ?_;(focus first|assumption|lia);cbv)|(refine Br.f ?_ ?_;(focus first|assumption|lia);cbv)|(refine R0 ?_;cbv))
 all_goals first
  | exact⟨rfl,rfl,trivial⟩
  | exact⟨rfl,rfl,rfl,trivial⟩
  | exact⟨rfl,rfl,rfl,rfl,rfl,rfl,trivial⟩
  | exact trivial
  | (exfalso;skip;lia)
  | trace_state
  | trace_state
theorem rcall_pHead {x y:Int}:Fn prog 174 [.str bHead,.agg (pointV x y).enc] [] [.agg zeroV.enc,.bool false] []:=by
 skip
 refine go (fn:=Proofs.Tryz.f174) (n:=82) (rv:=[ResultVar.cell 4 92,ResultVar.tmp 5]) rfl (by decide) rfl (by decide +kernel) rfl rfl (by simp) fun F L C=>?_
 cbv
 (repeat' first|(refine Br.t ?_ ?_;(focus first|assumption|lia);cbv)|(refine Br.f ?_ ?_;(focus first|assumption|lia);cbv)|(refine R0 ?_;cbv))
 all_goals first
  | exact⟨rfl,rfl,trivial⟩
  | exact⟨rfl,rfl,rfl,trivial⟩
  | exact⟨rfl,rfl,rfl,rfl,rfl,rfl,trivial⟩
  | exact trivial
  | (exfalso;skip;lia)
  | trace_state
  | trace_state
theorem rcall_tNorm {t:ByteArray}:Fn prog 174 [.str bNorm,.agg (textV t).enc] [] [.agg zeroV.enc,.bool false] []:=by
 skip
 refine go (fn:=Proofs.Tryz.f174) (n:=82) (rv:=[ResultVar.cell 4 92,ResultVar.tmp 5]) rfl (by decide) rfl (by decide +kernel) rfl rfl (by simp) fun F L C=>?_
 cbv
 (repeat' first|(refine Br.t ?_ ?_;(focus first|assumption|lia);cbv)|(refine Br.f ?_ ?_;(focus first|assumption|lia);cbv)|(refine R0 ?_;cbv))
 all_goals first
  | exact⟨rfl,rfl,trivial⟩
  | exact⟨rfl,rfl,rfl,trivial⟩
  | exact⟨rfl,rfl,rfl,rfl,rfl,rfl,trivial⟩
  | exact trivial
  | (exfalso;skip;lia)
  | trace_state
  | trace_state
theorem rcall_tConj {t:ByteArray}:Fn prog 174 [.str bConj,.agg (textV t).enc] [] [.agg zeroV.enc,.bool false] []:=by
 skip
 refine go (fn:=Proofs.Tryz.f174) (n:=82) (rv:=[ResultVar.cell 4 92,ResultVar.tmp 5]) rfl (by decide) rfl (by decide +kernel) rfl rfl (by simp) fun F L C=>?_
 cbv
 (repeat' first|(refine Br.t ?_ ?_;(focus first|assumption|lia);cbv)|(refine Br.f ?_ ?_;(focus first|assumption|lia);cbv)|(refine R0 ?_;cbv))
 all_goals first
  | exact⟨rfl,rfl,trivial⟩
  | exact⟨rfl,rfl,rfl,trivial⟩
  | exact⟨rfl,rfl,rfl,rfl,rfl,rfl,trivial⟩
  | exact trivial
  | (exfalso;skip;lia)
  | trace_state
  | trace_state
theorem rcall_tTurn {t:ByteArray}:Fn prog 174 [.str bTurn,.agg (textV t).enc] [] [.agg zeroV.enc,.bool false] []:=by
 skip
 refine go (fn:=Proofs.Tryz.f174) (n:=82) (rv:=[ResultVar.cell 4 92,ResultVar.tmp 5]) rfl (by decide) rfl (by decide +kernel) rfl rfl (by simp) fun F L C=>?_
 cbv
 (repeat' first|(refine Br.t ?_ ?_;(focus first|assumption|lia);cbv)|(refine Br.f ?_ ?_;(focus first|assumption|lia);cbv)|(refine R0 ?_;cbv))
 all_goals first
  | exact⟨rfl,rfl,trivial⟩
  | exact⟨rfl,rfl,rfl,trivial⟩
  | exact⟨rfl,rfl,rfl,rfl,rfl,rfl,trivial⟩
  | exact trivial
  | (exfalso;skip;lia)
  | trace_state
  | trace_state
theorem u8_add32 {c:Int} (h:65≤c∧c≤90):IntKind.u8.wrap (c+32)=c+32:=by unfold IntKind.wrap;simp [IntKind.bits,IntKind.signed];omega
theorem rcall_low {t S:ByteArray} (hS:S=lowV t) (ht:t.size≤1000000):Fn prog 174 [.str bLow,.agg (textV t).enc] [] [.agg (textV S).enc,.bool true] []:=by
 have k1:=rtext_fn S
 obtain⟨N,hN⟩:∃ N:Nat,N=t.data.toList.length:=⟨_,rfl⟩
 have hNs:t.size=N:=by rw[hN,size_list]
 obtain⟨R,hR⟩:∃ R:Nat→List (List PV),R=fun i=>byteRows (lowF t i):=⟨_,rfl⟩
 have hlen:∀ i,(R i).length=N:=fun i=>by rw[hR,hN];exact lowF_len t i
 obtain⟨V,hV⟩:∃ V:UInt8→Int,V=fun c=>(c.toNat:Int):=⟨_,rfl⟩
 have hVb:∀ c,0≤V c∧V c<256:=fun c=>by rw[hV];have:=c.toNat_lt;exact⟨by simp only;omega,by simp only;omega⟩
 have hVu:∀ c,65≤V c∧V c≤90→V (lowC c)=V c+32:=fun c h=>by rw[hV] at h ⊢;exact lowC_up (by simp only at h;omega)
 have hVn:∀ c,¬ (65≤V c∧V c≤90)→V (lowC c)=V c:=fun c h=>by rw[hV] at h ⊢;rw[lowC_no (by simp only at h;omega)]
 have hat:∀ (i:Nat) c,t.data.toList[i]?=some c→(R i)[i]?=some [.int .u8 (V c)]:=fun i c h=>by rw[hR,hV];exact lowF_at h
 have hsuc:∀ (i:Nat) c,t.data.toList[i]?=some c→R (i+1)=(R i).set i [.int .u8 (V (lowC c))]:=fun i c h=>by rw[hR,hV];exact lowF_succ h
 have hend:∀ i,N≤i→R i=byteRows S:=fun i h=>by rw[hR,hS];show byteRows (lowF t i)=_;rw[lowF_all t (by omega)]
 obtain⟨z,hz⟩:∃ z:Nat,z=0:=⟨_,rfl⟩
 have h0:R z=byteRows t:=by rw[hR,hz];show byteRows (lowF t 0)=_;rw[lowF_zero]
 have hlz:=hlen z
 clear hR hS hV
 refine go (fn:=Proofs.Tryz.f174) (n:=82) (rv:=[ResultVar.cell 4 92,ResultVar.tmp 5]) rfl (by decide) rfl (by decide +kernel) rfl rfl (by simp) fun F L C=>?_
 cbv
 (repeat' first|(refine Named.atG (R z) h0 ?_;cbv)|(refine Br.t ?_ ?_;(focus first|assumption|lia);cbv)|(refine Br.f ?_ ?_;(focus first|assumption|lia);cbv)|(refine Need.mk ?_ ?_;rotate_left;cbv))
 all_goals try
  (clear hend hsuc hat hlen k1 h0 hVb hVu hVn;omega)
 all_goals try
  (exfalso;clear hend hsuc hat hlen k1 h0 hVb hVu hVn hlz;lia)
 clear h0 hlz
 refine LoopThen.mk (C.loopAt (ι:=Nat) [(7,7),(44,69)] (fun i=>[(7,.int .i64 i)]) (fun i=>[(320,.box [.int .i64 2,.int .i64 0,.str t,.int .i64 0,.int .i64 0]),(384,.box [.int .i64 0,.int .i64 0,.str ByteArray.empty,.int .i64 0,.int .i64 0]),(2880,.arr 1 none 1 (R i))])
  (fun i=>i≤N) (fun i=>N-i) (by decide +kernel) (Start.mk z [] [] (show z≤N by omega) ?_) ?_)
 ·clear hend hsuc hat hlen k1
  cbv
  (repeat' apply And.intro)<;>first|exact True.intro|exact WkR.refl _|rfl|(clear hVb hVu hVn;lia)|trace_state
 intro i g
 cbv
 have g1:i≤N:=g
 clear g
 have hl:=hlen i
 by_cases hi:i<N
 ·obtain⟨c,hc⟩:∃ c,t.data.toList[i]?=some c:=⟨t.data.toList[i]'(by omega),List.getElem?_eq_getElem (by omega)⟩
  have ha:=hat i c hc
  have hs:=hsuc i c hc
  have hcb:=hVb c
  have hcu:=hVu c
  have hcn:=hVn c
  obtain⟨C0,hC0⟩:∃ C0,C0=V c:=⟨_,rfl⟩
  rw[← hC0] at hcb hcu hcn ha
  clear hat hsuc hend hlen k1 hVb hVu hVn hC0 hc
  by_cases hu:65≤C0∧C0≤90
  ·rw[hcu hu] at hs
   obtain⟨E,hE⟩:∃ E,E=C0+32:=⟨_,rfl⟩
   have hE2:E=IntKind.u8.wrap (C0+32):=by rw[u8_add32 hu];exact hE
   rw[← hE] at hs
   clear hcu hcn
   (repeat' first|(refine Named.atG i rfl ?_;cbv)|(refine Named.atG E hE2 ?_;cbv)|(refine Na ?_ fun _ _=>?_;(focus lia);cbv)|(refine Ex.mk [.int .u8 C0] ⟨by clear ha hs hE2;lia,ha⟩ ?_;cbv)|(refine Back.up [] [] ?_ ?_ fun _ _=>?_;rotate_left 2;cbv;refine And.intro ?_ ?_)|(refine Nl fun _ _ hq=>?_;(try simp only [lenS] at hq);cbv)|(refine Nm fun _ _=>?_;cbv)|(refine Br.t ?_ ?_;(focus first|assumption|lia);cbv)|(refine Need.mk ?_ ?_;rotate_left;cbv))
   all_goals(repeat' apply And.intro)
   all_goals try first
    | exact True.intro
    | exact WkR.refl _
    | rfl
    | (clear ha hs hE2;lia)
   all_goals
    rename_i q hq1 _ _ k' hk'
    rw[hk',hq1]
    exact WkR.of_eq hs
  ·rw[hcn hu] at hs
   have hse:R (i+1)=R i:=by rw[hs];exact set_self ha
   clear hs hcu hcn
   (repeat' first|(refine Named.atG i rfl ?_;cbv)|(refine Na ?_ fun _ _=>?_;(focus lia);cbv)|(refine Ex.mk [.int .u8 C0] ⟨by clear ha hse;lia,ha⟩ ?_;cbv)|(refine Back.up [] [] ?_ ?_ fun _ _=>?_;rotate_left 2;cbv;refine And.intro ?_ ?_)|(refine Nm fun _ _=>?_;cbv)|(refine Br.t ?_ ?_;(focus first|assumption|lia);cbv)|(refine Br.f ?_ ?_;(focus first|assumption|lia);cbv)|(refine Br.mk (fun _=>?_) (fun _=>?_)<;>cbv)|(refine Need.mk ?_ ?_;rotate_left;cbv))
   all_goals(repeat' apply And.intro)
   all_goals try first
    | exact True.intro
    | exact WkR.refl _
    | rfl
    | (clear ha hse;lia)
   all_goals first
    | (rename_i k' hk';exact WkR.of_eq (by rw[hk',hse]))
    | trace_state
 ·have he:=hend i (by omega)
  clear hat hsuc hend hlen hVb hVu hVn
  (repeat' first|(refine Ex.mk S he ?_;cbv)|(refine CallThen.mk _ _ (C.fn (k1)) ?_;cbv)|(refine Nm fun _ _=>?_;cbv)|(refine Br.f ?_ ?_;(focus first|assumption|lia);cbv)|(refine R0 ?_;cbv))
  all_goals first
   | exact⟨rfl,rfl,trivial⟩
   | exact⟨rfl,trivial⟩
   | (exfalso;clear he k1;lia)
   | trace_state
end Go.Sym
