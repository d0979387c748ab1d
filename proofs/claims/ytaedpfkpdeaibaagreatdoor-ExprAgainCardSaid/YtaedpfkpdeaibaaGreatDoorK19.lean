/- Values of expressions, the document's: turns, products (walks). -/
import Derived.Test.YtaedpfkpdeaibaaGreatDoorK14
import Derived.Test.YtaedpfkpdeaibaaGreatDoorK13
set_option linter.all false
set_option linter.unusedVariables false
set_option linter.unusedSimpArgs false
namespace Go.Sym
open Go Go.Proofs.Tryz
set_option maxRecDepth 100000
theorem rturn03_fn {a b c:Int} (h:gOk a b=true) (hc:c=-b):Fn prog 112 [.agg [.int .i64 a,.int .i64 b],.int .i64 1] [] [.agg [.int .i64 c,.int .i64 a]] []:=by
 obtain⟨q1,q2,q3,q4⟩:=gOk_iff.1 h
 have nc:c=IntKind.i64.wrap (0-b):=by rw[wrap64 (by omega)];omega
 obtain⟨z,hz⟩:∃ z:Nat,z=0:=⟨_,rfl⟩
 obtain⟨p,hp⟩:∃ p:Nat→Int,p=fun i=>if i=0 then a else c:=⟨_,rfl⟩
 obtain⟨q,hq⟩:∃ p:Nat→Int,p=fun i=>if i=0 then b else a:=⟨_,rfl⟩
 have pz:p z=a∧q z=b:=by rw[hp,hq,hz];exact⟨rfl,rfl⟩
 have p0:p 0=a∧q 0=b:=by rw[hp,hq];exact⟨rfl,rfl⟩
 have p1:p 1=c∧q 1=a:=by rw[hp,hq];exact⟨rfl,rfl⟩
 have t4:(4:Int)≠0:=by decide
 have m1:Int.tmod 1 4=1:=by decide
 clear h hp hq hc
 refine go (fn:=Proofs.Tryz.f112) (n:=22) (rv:=[ResultVar.cell 4 35]) rfl (by decide) rfl (by decide +kernel) rfl rfl (by simp) fun F L C=>?_
 cbv
 refine Need.mk t4 ?_
 cbv
 refine Named.atG 1 m1.symm ?_
 cbv
 clear m1 t4
 (repeat' first|(refine Na ?_ fun _ _=>?_;(focus lia);cbv)|(refine Nl fun _ _ hq=>?_;(try simp only [lenS] at hq);cbv)|(refine Nm fun _ _=>?_;cbv)|(refine Br.t ?_ ?_;(focus first|assumption|lia);cbv)|(refine Br.f ?_ ?_;(focus first|assumption|lia);cbv)|(refine Br.mk (fun _=>?_) (fun _=>?_)<;>cbv)|(refine Need.mk ?_ ?_;rotate_left;cbv)|(refine R0 ?_;cbv))
 all_goals try(exfalso;lia)
 refine LoopThen.mk (C.loopAt (ι:=Nat) [(5,5),(12,22)] (fun i=>[(1,.int .i64 1),(5,.int .i64 i)]) (fun i=>[(256,.box [.int .i64 (p i),.int .i64 (q i)]),(384,.box [.int .i64 0,.int .i64 0])])
  (fun i=>i≤1) (fun i=>1-i) (by decide +kernel) (Start.mk z [] [] (show z≤1 by omega) ?_) ?_)
 ·cbv
  (repeat' apply And.intro)<;>first|exact True.intro|exact pz.1|exact pz.2|rfl|(clear nc;lia)|trace_state
 intro i g
 cbv
 have g1:i≤1:=g
 clear g
 obtain h0|h0:i=0∨i=1:=by omega
 ·have hpi:p i=a∧q i=b:=by rw[h0];exact p0
  have hP:∀ j,j=1→p j=c∧q j=a:=fun j hj=>by rw[hj];exact p1
  rw[hpi.1,hpi.2]
  clear pz p0 p1 hpi
  (repeat' first|(refine Named.atG c nc ?_;cbv)|(refine Br.t ?_ ?_;(focus(clear nc hP;lia));cbv)|(refine Na ?_ fun _ _=>?_;(focus(clear nc hP;lia));cbv)|(refine Na ?_ fun _ _=>?_;(focus lia);cbv)|(refine Back.up [] [] ?_ ?_ fun _ _=>?_;rotate_left 2;cbv;refine And.intro ?_ ?_)|(refine Nl fun _ _ hq=>?_;(try simp only [lenS] at hq);cbv)|(refine Nm fun _ _=>?_;cbv)|(refine Br.t ?_ ?_;(focus first|assumption|lia);cbv)|(refine Br.f ?_ ?_;(focus first|assumption|lia);cbv)|(refine Br.mk (fun _=>?_) (fun _=>?_)<;>cbv)|(refine Need.mk ?_ ?_;rotate_left;cbv)|(refine R0 ?_;cbv))
  all_goals(repeat' apply And.intro)
  all_goals first
   | exact True.intro
   | exact(hP _ (by clear nc hP;lia)).1
   | exact(hP _ (by clear nc hP;lia)).2
   | rfl
   | (clear nc hP;lia)
   | trace_state
 ·have hpi:p i=c∧q i=a:=by rw[h0];exact p1
  rw[hpi.1,hpi.2]
  clear pz p0 p1 hpi nc
  (repeat' first|(refine Na ?_ fun _ _=>?_;(focus lia);cbv)|(refine Nl fun _ _ hq=>?_;(try simp only [lenS] at hq);cbv)|(refine Nm fun _ _=>?_;cbv)|(refine Br.t ?_ ?_;(focus first|assumption|lia);cbv)|(refine Br.f ?_ ?_;(focus first|assumption|lia);cbv)|(refine Br.mk (fun _=>?_) (fun _=>?_)<;>cbv)|(refine Need.mk ?_ ?_;rotate_left;cbv)|(refine R0 ?_;cbv))
  all_goals first
   | exact⟨rfl,rfl,trivial⟩
   | (exfalso;lia)
   | trace_state
theorem prod_big {a b x y:Int} (hx:x=if a<0 then -a else a) (hy:y=if b<0 then -b else b) (ha:-9007199254740992≤a∧a≤9007199254740992) (h0:x≠0) :
  (y > (9007199254740992:Int).tdiv x) ↔ ¬ (-9007199254740992≤a * b∧a * b≤9007199254740992):=by
 have hx':x=a.natAbs:=by rw[hx];split<;>omega
 have hy':y=b.natAbs:=by rw[hy];split<;>omega
 have hab:(a * b).natAbs=a.natAbs * b.natAbs:=Int.natAbs_mul a b
 have hpos:0<a.natAbs:=by omega
 rw[hx',hy']
 have e:(9007199254740992:Int).tdiv (a.natAbs:Int)=((9007199254740992 / a.natAbs:Nat):Int):=rfl
 rw[e]
 have k:9007199254740992 / a.natAbs<b.natAbs ↔ 9007199254740992<b.natAbs * a.natAbs:=Nat.div_lt_iff_lt_mul hpos
 rw[Nat.mul_comm] at k
 constructor
 ·intro h
  have:=k.1 (by omega)
  omega
 ·intro h
  have:9007199254740992<a.natAbs * b.natAbs:=by omega
  have:=k.2 this
  omega
theorem rmul_np {n x y g1 g2:Int} {B:Bool} (hp:gOk x y=true) (hB:gOk n 0=B) (e1:g1=n * x-0 * y) (e2:g2=n * y+0 * x) (ht:B=true):Fn prog 85 [.agg (numV n).enc,.agg (pointV x y).enc] [] [.agg (pointV g1 g2).enc,.bool true] []:=by
 subst ht;have k1:=ras_n n;rw[hB] at k1;have k2:=ras_p x y;have k3:=rmul03_fn hB hp e1 e2;have k4:=rpoint_fn g1 g2;clear hp hB e1 e2
 refine go (fn:=Proofs.Tryz.f85) (n:=66) (rv:=[ResultVar.cell 4 37,ResultVar.tmp 5]) rfl (by decide) rfl (by decide +kernel) rfl rfl (by simp) fun F L C=>?_
 cbv
 (repeat' first|(refine Na ?_ fun _ _=>?_;(focus lia);cbv)|(refine CallThen.mk _ _ (C.fn (k1)) ?_;cbv)|(refine CallThen.mk _ _ (C.fn (k2)) ?_;cbv)|(refine CallThen.mk _ _ (C.fn (k3)) ?_;cbv)|(refine CallThen.mk _ _ (C.fn (k4)) ?_;cbv)|(refine Nl fun _ _ hq=>?_;(try simp only [lenS] at hq);cbv)|(refine Nm fun _ _=>?_;cbv)|(refine Br.t ?_ ?_;(focus first|assumption|lia);cbv)|(refine Br.f ?_ ?_;(focus first|assumption|lia);cbv)|(refine Br.mk (fun _=>?_) (fun _=>?_)<;>cbv)|(refine Need.mk ?_ ?_;rotate_left;cbv)|(refine R0 ?_;cbv))
 all_goals first
  | exact⟨rfl,rfl,trivial⟩
  | exact⟨rfl,rfl,rfl,trivial⟩
  | exact trivial
  | (exfalso;clear k1 k2 k3 k4;lia)
  | trace_state
  | trace_state
theorem rmul_npF {n x y:Int} (hB:gOk n 0=false):Fn prog 85 [.agg (numV n).enc,.agg (pointV x y).enc] [] [.agg zeroV.enc,.bool false] []:=by
 have k1:=ras_n n;rw[hB] at k1;have k2:=ras_p x y;clear hB
 refine go (fn:=Proofs.Tryz.f85) (n:=66) (rv:=[ResultVar.cell 4 37,ResultVar.tmp 5]) rfl (by decide) rfl (by decide +kernel) rfl rfl (by simp) fun F L C=>?_
 cbv
 (repeat' first|(refine Na ?_ fun _ _=>?_;(focus lia);cbv)|(refine CallThen.mk _ _ (C.fn (k1)) ?_;cbv)|(refine CallThen.mk _ _ (C.fn (k2)) ?_;cbv)|(refine Nl fun _ _ hq=>?_;(try simp only [lenS] at hq);cbv)|(refine Nm fun _ _=>?_;cbv)|(refine Br.t ?_ ?_;(focus first|assumption|lia);cbv)|(refine Br.f ?_ ?_;(focus first|assumption|lia);cbv)|(refine Br.mk (fun _=>?_) (fun _=>?_)<;>cbv)|(refine Need.mk ?_ ?_;rotate_left;cbv)|(refine R0 ?_;cbv))
 all_goals first
  | exact⟨rfl,rfl,trivial⟩
  | exact⟨rfl,rfl,rfl,trivial⟩
  | exact trivial
  | (exfalso;clear k1 k2;lia)
  | trace_state
  | trace_state
theorem rmul_pn {n x y g1 g2:Int} (hp:gOk x y=true) (hB:gOk n 0=true) (e1:g1=x * n-y * 0) (e2:g2=x * 0+y * n):Fn prog 85 [.agg (pointV x y).enc,.agg (numV n).enc] [] [.agg (pointV g1 g2).enc,.bool true] []:=by
 have k1:=ras_n n;rw[hB] at k1;have k2:=ras_p x y;have k3:=rmul03_fn hp hB e1 e2;have k4:=rpoint_fn g1 g2;clear hp hB e1 e2
 refine go (fn:=Proofs.Tryz.f85) (n:=66) (rv:=[ResultVar.cell 4 37,ResultVar.tmp 5]) rfl (by decide) rfl (by decide +kernel) rfl rfl (by simp) fun F L C=>?_
 cbv
 (repeat' first|(refine Na ?_ fun _ _=>?_;(focus lia);cbv)|(refine CallThen.mk _ _ (C.fn (k1)) ?_;cbv)|(refine CallThen.mk _ _ (C.fn (k2)) ?_;cbv)|(refine CallThen.mk _ _ (C.fn (k3)) ?_;cbv)|(refine CallThen.mk _ _ (C.fn (k4)) ?_;cbv)|(refine Nl fun _ _ hq=>?_;(try simp only [lenS] at hq);cbv)|(refine Nm fun _ _=>?_;cbv)|(refine Br.t ?_ ?_;(focus first|assumption|lia);cbv)|(refine Br.f ?_ ?_;(focus first|assumption|lia);cbv)|(refine Br.mk (fun _=>?_) (fun _=>?_)<;>cbv)|(refine Need.mk ?_ ?_;rotate_left;cbv)|(refine R0 ?_;cbv))
 all_goals first
  | exact⟨rfl,rfl,trivial⟩
  | exact⟨rfl,rfl,rfl,trivial⟩
  | exact trivial
  | (exfalso;clear k1 k2 k3 k4;lia)
  | trace_state
  | trace_state
theorem rmul_pnF {n x y:Int} (hB:gOk n 0=false):Fn prog 85 [.agg (pointV x y).enc,.agg (numV n).enc] [] [.agg zeroV.enc,.bool false] []:=by
 have k1:=ras_n n;rw[hB] at k1;have k2:=ras_p x y;clear hB
 refine go (fn:=Proofs.Tryz.f85) (n:=66) (rv:=[ResultVar.cell 4 37,ResultVar.tmp 5]) rfl (by decide) rfl (by decide +kernel) rfl rfl (by simp) fun F L C=>?_
 cbv
 (repeat' first|(refine Na ?_ fun _ _=>?_;(focus lia);cbv)|(refine CallThen.mk _ _ (C.fn (k1)) ?_;cbv)|(refine CallThen.mk _ _ (C.fn (k2)) ?_;cbv)|(refine Nl fun _ _ hq=>?_;(try simp only [lenS] at hq);cbv)|(refine Nm fun _ _=>?_;cbv)|(refine Br.t ?_ ?_;(focus first|assumption|lia);cbv)|(refine Br.f ?_ ?_;(focus first|assumption|lia);cbv)|(refine Br.mk (fun _=>?_) (fun _=>?_)<;>cbv)|(refine Need.mk ?_ ?_;rotate_left;cbv)|(refine R0 ?_;cbv))
 all_goals first
  | exact⟨rfl,rfl,trivial⟩
  | exact⟨rfl,rfl,rfl,trivial⟩
  | exact trivial
  | (exfalso;clear k1 k2;lia)
  | trace_state
  | trace_state
theorem rmul_pp {u v x y g1 g2:Int} (hp:gOk x y=true) (hB:gOk u v=true) (e1:g1=x * u-y * v) (e2:g2=x * v+y * u):Fn prog 85 [.agg (pointV x y).enc,.agg (pointV u v).enc] [] [.agg (pointV g1 g2).enc,.bool true] []:=by
 have k1:=ras_p u v;have k2:=ras_p x y;have k3:=rmul03_fn hp hB e1 e2;have k4:=rpoint_fn g1 g2;clear hp hB e1 e2
 refine go (fn:=Proofs.Tryz.f85) (n:=66) (rv:=[ResultVar.cell 4 37,ResultVar.tmp 5]) rfl (by decide) rfl (by decide +kernel) rfl rfl (by simp) fun F L C=>?_
 cbv
 (repeat' first|(refine Na ?_ fun _ _=>?_;(focus lia);cbv)|(refine CallThen.mk _ _ (C.fn (k1)) ?_;cbv)|(refine CallThen.mk _ _ (C.fn (k2)) ?_;cbv)|(refine CallThen.mk _ _ (C.fn (k3)) ?_;cbv)|(refine CallThen.mk _ _ (C.fn (k4)) ?_;cbv)|(refine Nl fun _ _ hq=>?_;(try simp only [lenS] at hq);cbv)|(refine Nm fun _ _=>?_;cbv)|(refine Br.t ?_ ?_;(focus first|assumption|lia);cbv)|(refine Br.f ?_ ?_;(focus first|assumption|lia);cbv)|(refine Br.mk (fun _=>?_) (fun _=>?_)<;>cbv)|(refine Need.mk ?_ ?_;rotate_left;cbv)|(refine R0 ?_;cbv))
 all_goals first
  | exact⟨rfl,rfl,trivial⟩
  | exact⟨rfl,rfl,rfl,trivial⟩
  | exact trivial
  | (exfalso;clear k1 k2 k3 k4;lia)
  | trace_state
  | trace_state
theorem rmul_tt {s t:ByteArray}:Fn prog 85 [.agg (textV s).enc,.agg (textV t).enc] [] [.agg zeroV.enc,.bool false] []:=by
 have k1:=ras_t s;have k2:=ras_t t
 refine go (fn:=Proofs.Tryz.f85) (n:=66) (rv:=[ResultVar.cell 4 37,ResultVar.tmp 5]) rfl (by decide) rfl (by decide +kernel) rfl rfl (by simp) fun F L C=>?_
 cbv
 (repeat' first|(refine Na ?_ fun _ _=>?_;(focus lia);cbv)|(refine CallThen.mk _ _ (C.fn (k1)) ?_;cbv)|(refine CallThen.mk _ _ (C.fn (k2)) ?_;cbv)|(refine Nl fun _ _ hq=>?_;(try simp only [lenS] at hq);cbv)|(refine Nm fun _ _=>?_;cbv)|(refine Br.t ?_ ?_;(focus first|assumption|lia);cbv)|(refine Br.f ?_ ?_;(focus first|assumption|lia);cbv)|(refine Br.mk (fun _=>?_) (fun _=>?_)<;>cbv)|(refine Need.mk ?_ ?_;rotate_left;cbv)|(refine R0 ?_;cbv))
 all_goals first
  | exact⟨rfl,rfl,trivial⟩
  | exact⟨rfl,rfl,rfl,trivial⟩
  | exact trivial
  | (exfalso;clear k1 k2;lia)
  | trace_state
  | trace_state
theorem rmul_tn {s:ByteArray} {n:Int} {B:Bool} (hB:gOk n 0=B):Fn prog 85 [.agg (textV s).enc,.agg (numV n).enc] [] [.agg zeroV.enc,.bool false] []:=by
 have k1:=ras_t s;have k2:=ras_n n;rw[hB] at k2;clear hB
 refine go (fn:=Proofs.Tryz.f85) (n:=66) (rv:=[ResultVar.cell 4 37,ResultVar.tmp 5]) rfl (by decide) rfl (by decide +kernel) rfl rfl (by simp) fun F L C=>?_
 cbv
 (repeat' first|(refine Na ?_ fun _ _=>?_;(focus lia);cbv)|(refine CallThen.mk _ _ (C.fn (k1)) ?_;cbv)|(refine CallThen.mk _ _ (C.fn (k2)) ?_;cbv)|(refine Nl fun _ _ hq=>?_;(try simp only [lenS] at hq);cbv)|(refine Nm fun _ _=>?_;cbv)|(refine Br.t ?_ ?_;(focus first|assumption|lia);cbv)|(refine Br.f ?_ ?_;(focus first|assumption|lia);cbv)|(refine Br.mk (fun _=>?_) (fun _=>?_)<;>cbv)|(refine Need.mk ?_ ?_;rotate_left;cbv)|(refine R0 ?_;cbv))
 all_goals first
  | exact⟨rfl,rfl,trivial⟩
  | exact⟨rfl,rfl,rfl,trivial⟩
  | exact trivial
  | (exfalso;clear k1 k2;lia)
  | trace_state
  | trace_state
theorem rmul_ntT {s:ByteArray} {n:Int} (hB:gOk n 0=true):Fn prog 85 [.agg (numV n).enc,.agg (textV s).enc] [] [.agg zeroV.enc,.bool false] []:=by
 have k1:=ras_t s;have k2:=ras_n n;rw[hB] at k2;clear hB
 refine go (fn:=Proofs.Tryz.f85) (n:=66) (rv:=[ResultVar.cell 4 37,ResultVar.tmp 5]) rfl (by decide) rfl (by decide +kernel) rfl rfl (by simp) fun F L C=>?_
 cbv
 (repeat' first|(refine Na ?_ fun _ _=>?_;(focus lia);cbv)|(refine CallThen.mk _ _ (C.fn (k1)) ?_;cbv)|(refine CallThen.mk _ _ (C.fn (k2)) ?_;cbv)|(refine Nl fun _ _ hq=>?_;(try simp only [lenS] at hq);cbv)|(refine Nm fun _ _=>?_;cbv)|(refine Br.t ?_ ?_;(focus first|assumption|lia);cbv)|(refine Br.f ?_ ?_;(focus first|assumption|lia);cbv)|(refine Br.mk (fun _=>?_) (fun _=>?_)<;>cbv)|(refine Need.mk ?_ ?_;rotate_left;cbv)|(refine R0 ?_;cbv))
 all_goals first
  | exact⟨rfl,rfl,trivial⟩
  | exact⟨rfl,rfl,rfl,trivial⟩
  | exact trivial
  | (exfalso;clear k1 k2;lia)
  | trace_state
  | trace_state
theorem rmul_ntF {s:ByteArray} {n:Int} (hB:gOk n 0=false):Fn prog 85 [.agg (numV n).enc,.agg (textV s).enc] [] [.agg zeroV.enc,.bool false] []:=by
 have k1:=ras_t s;have k2:=ras_n n;rw[hB] at k2;clear hB
 refine go (fn:=Proofs.Tryz.f85) (n:=66) (rv:=[ResultVar.cell 4 37,ResultVar.tmp 5]) rfl (by decide) rfl (by decide +kernel) rfl rfl (by simp) fun F L C=>?_
 cbv
 (repeat' first|(refine Na ?_ fun _ _=>?_;(focus lia);cbv)|(refine CallThen.mk _ _ (C.fn (k1)) ?_;cbv)|(refine CallThen.mk _ _ (C.fn (k2)) ?_;cbv)|(refine Nl fun _ _ hq=>?_;(try simp only [lenS] at hq);cbv)|(refine Nm fun _ _=>?_;cbv)|(refine Br.t ?_ ?_;(focus first|assumption|lia);cbv)|(refine Br.f ?_ ?_;(focus first|assumption|lia);cbv)|(refine Br.mk (fun _=>?_) (fun _=>?_)<;>cbv)|(refine Need.mk ?_ ?_;rotate_left;cbv)|(refine R0 ?_;cbv))
 all_goals first
  | exact⟨rfl,rfl,trivial⟩
  | exact⟨rfl,rfl,rfl,trivial⟩
  | exact trivial
  | (exfalso;clear k1 k2;lia)
  | trace_state
  | trace_state
theorem rmul_tp {s:ByteArray} {x y:Int}:Fn prog 85 [.agg (textV s).enc,.agg (pointV x y).enc] [] [.agg zeroV.enc,.bool false] []:=by
 have k1:=ras_t s;have k2:=ras_p x y
 refine go (fn:=Proofs.Tryz.f85) (n:=66) (rv:=[ResultVar.cell 4 37,ResultVar.tmp 5]) rfl (by decide) rfl (by decide +kernel) rfl rfl (by simp) fun F L C=>?_
 cbv
 (repeat' first|(refine Na ?_ fun _ _=>?_;(focus lia);cbv)|(refine CallThen.mk _ _ (C.fn (k1)) ?_;cbv)|(refine CallThen.mk _ _ (C.fn (k2)) ?_;cbv)|(refine Nl fun _ _ hq=>?_;(try simp only [lenS] at hq);cbv)|(refine Nm fun _ _=>?_;cbv)|(refine Br.t ?_ ?_;(focus first|assumption|lia);cbv)|(refine Br.f ?_ ?_;(focus first|assumption|lia);cbv)|(refine Br.mk (fun _=>?_) (fun _=>?_)<;>cbv)|(refine Need.mk ?_ ?_;rotate_left;cbv)|(refine R0 ?_;cbv))
 all_goals first
  | exact⟨rfl,rfl,trivial⟩
  | exact⟨rfl,rfl,rfl,trivial⟩
  | exact trivial
  | (exfalso;clear k1 k2;lia)
  | trace_state
  | trace_state
theorem rmul_pt {s:ByteArray} {x y:Int}:Fn prog 85 [.agg (pointV x y).enc,.agg (textV s).enc] [] [.agg zeroV.enc,.bool false] []:=by
 have k1:=ras_t s;have k2:=ras_p x y
 refine go (fn:=Proofs.Tryz.f85) (n:=66) (rv:=[ResultVar.cell 4 37,ResultVar.tmp 5]) rfl (by decide) rfl (by decide +kernel) rfl rfl (by simp) fun F L C=>?_
 cbv
 (repeat' first|(refine Na ?_ fun _ _=>?_;(focus lia);cbv)|(refine CallThen.mk _ _ (C.fn (k1)) ?_;cbv)|(refine CallThen.mk _ _ (C.fn (k2)) ?_;cbv)|(refine Nl fun _ _ hq=>?_;(try simp only [lenS] at hq);cbv)|(refine Nm fun _ _=>?_;cbv)|(refine Br.t ?_ ?_;(focus first|assumption|lia);cbv)|(refine Br.f ?_ ?_;(focus first|assumption|lia);cbv)|(refine Br.mk (fun _=>?_) (fun _=>?_)<;>cbv)|(refine Need.mk ?_ ?_;rotate_left;cbv)|(refine R0 ?_;cbv))
 all_goals first
  | exact⟨rfl,rfl,trivial⟩
  | exact⟨rfl,rfl,rfl,trivial⟩
  | exact trivial
  | (exfalso;clear k1 k2;lia)
  | trace_state
  | trace_state
theorem rmul_nnNN {a b X Y:Int} (sa:a<0) (nX:X=IntKind.i64.wrap (0-a)) (sb:b<0) (nY:Y=IntKind.i64.wrap (0-b)) {Q:Int} (nQ:Q=IntKind.i64.wrap (Int.tdiv 9007199254740992 X)) (hX:¬ X=0→¬ Q<Y) {q:Int} (nq:q=IntKind.i64.wrap (a * b)):Fn prog 85 [.agg (numV a).enc,.agg (numV b).enc] [] [.agg (numV q).enc,.bool true] []:=by
 have k1:=rnum_fn q
 refine go (fn:=Proofs.Tryz.f85) (n:=66) (rv:=[ResultVar.cell 4 37,ResultVar.tmp 5]) rfl (by decide) rfl (by decide +kernel) rfl rfl (by simp) fun F L C=>?_
 cbv
 (repeat' first|(refine Named.atG X nX ?_;cbv)|(refine Named.atG Y nY ?_;cbv)|(refine Named.atG Q nQ ?_;cbv)|(refine Named.atG q nq ?_;cbv)|(refine Na ?_ fun _ _=>?_;(focus lia);cbv)|(refine CallThen.mk _ _ (C.fn (k1)) ?_;cbv)|(refine Nl fun _ _ hq=>?_;(try simp only [lenS] at hq);cbv)|(refine Nm fun _ _=>?_;cbv)|(refine Br.t ?_ ?_;(focus first|assumption|lia);cbv)|(refine Br.f ?_ ?_;(focus first|assumption|lia);cbv)|(refine Br.mk (fun _=>?_) (fun _=>?_)<;>cbv)|(refine Need.mk ?_ ?_;rotate_left;cbv)|(refine R0 ?_;cbv))
 all_goals first
  | exact⟨rfl,rfl,trivial⟩
  | exact⟨rfl,rfl,rfl,trivial⟩
  | exact trivial
  | (exfalso;clear k1 nq nQ nX nY;lia)
  | assumption
  | trace_state
theorem rmul_nnFNN {a b X Y:Int} (sa:a<0) (nX:X=IntKind.i64.wrap (0-a)) (sb:b<0) (nY:Y=IntKind.i64.wrap (0-b)) {Q:Int} (nQ:Q=IntKind.i64.wrap (Int.tdiv 9007199254740992 X)) (h0:¬ X=0) (hX:Q<Y):Fn prog 85 [.agg (numV a).enc,.agg (numV b).enc] [] [.agg zeroV.enc,.bool false] []:=by
 skip
 refine go (fn:=Proofs.Tryz.f85) (n:=66) (rv:=[ResultVar.cell 4 37,ResultVar.tmp 5]) rfl (by decide) rfl (by decide +kernel) rfl rfl (by simp) fun F L C=>?_
 cbv
 (repeat' first|(refine Named.atG X nX ?_;cbv)|(refine Named.atG Y nY ?_;cbv)|(refine Named.atG Q nQ ?_;cbv)|(refine Na ?_ fun _ _=>?_;(focus lia);cbv)|(refine Nl fun _ _ hq=>?_;(try simp only [lenS] at hq);cbv)|(refine Nm fun _ _=>?_;cbv)|(refine Br.t ?_ ?_;(focus first|assumption|lia);cbv)|(refine Br.f ?_ ?_;(focus first|assumption|lia);cbv)|(refine Br.mk (fun _=>?_) (fun _=>?_)<;>cbv)|(refine Need.mk ?_ ?_;rotate_left;cbv)|(refine R0 ?_;cbv))
 all_goals first
  | exact⟨rfl,rfl,trivial⟩
  | exact⟨rfl,rfl,rfl,trivial⟩
  | exact trivial
  | (exfalso;clear nQ nX nY;lia)
  | assumption
  | trace_state
theorem rmul_nnNP {a b X:Int} (sa:a<0) (nX:X=IntKind.i64.wrap (0-a)) (sb:¬ b<0) {Q:Int} (nQ:Q=IntKind.i64.wrap (Int.tdiv 9007199254740992 X)) (hX:¬ X=0→¬ Q<b) {q:Int} (nq:q=IntKind.i64.wrap (a * b)):Fn prog 85 [.agg (numV a).enc,.agg (numV b).enc] [] [.agg (numV q).enc,.bool true] []:=by
 have k1:=rnum_fn q
 refine go (fn:=Proofs.Tryz.f85) (n:=66) (rv:=[ResultVar.cell 4 37,ResultVar.tmp 5]) rfl (by decide) rfl (by decide +kernel) rfl rfl (by simp) fun F L C=>?_
 cbv
 (repeat' first|(refine Named.atG X nX ?_;cbv)|(refine Named.atG Q nQ ?_;cbv)|(refine Named.atG q nq ?_;cbv)|(refine Na ?_ fun _ _=>?_;(focus lia);cbv)|(refine CallThen.mk _ _ (C.fn (k1)) ?_;cbv)|(refine Nl fun _ _ hq=>?_;(try simp only [lenS] at hq);cbv)|(refine Nm fun _ _=>?_;cbv)|(refine Br.t ?_ ?_;(focus first|assumption|lia);cbv)|(refine Br.f ?_ ?_;(focus first|assumption|lia);cbv)|(refine Br.mk (fun _=>?_) (fun _=>?_)<;>cbv)|(refine Need.mk ?_ ?_;rotate_left;cbv)|(refine R0 ?_;cbv))
 all_goals first
  | exact⟨rfl,rfl,trivial⟩
  | exact⟨rfl,rfl,rfl,trivial⟩
  | exact trivial
  | (exfalso;clear k1 nq nQ nX;lia)
  | assumption
  | trace_state
theorem rmul_nnFNP {a b X:Int} (sa:a<0) (nX:X=IntKind.i64.wrap (0-a)) (sb:¬ b<0) {Q:Int} (nQ:Q=IntKind.i64.wrap (Int.tdiv 9007199254740992 X)) (h0:¬ X=0) (hX:Q<b):Fn prog 85 [.agg (numV a).enc,.agg (numV b).enc] [] [.agg zeroV.enc,.bool false] []:=by
 skip
 refine go (fn:=Proofs.Tryz.f85) (n:=66) (rv:=[ResultVar.cell 4 37,ResultVar.tmp 5]) rfl (by decide) rfl (by decide +kernel) rfl rfl (by simp) fun F L C=>?_
 cbv
 (repeat' first|(refine Named.atG X nX ?_;cbv)|(refine Named.atG Q nQ ?_;cbv)|(refine Na ?_ fun _ _=>?_;(focus lia);cbv)|(refine Nl fun _ _ hq=>?_;(try simp only [lenS] at hq);cbv)|(refine Nm fun _ _=>?_;cbv)|(refine Br.t ?_ ?_;(focus first|assumption|lia);cbv)|(refine Br.f ?_ ?_;(focus first|assumption|lia);cbv)|(refine Br.mk (fun _=>?_) (fun _=>?_)<;>cbv)|(refine Need.mk ?_ ?_;rotate_left;cbv)|(refine R0 ?_;cbv))
 all_goals first
  | exact⟨rfl,rfl,trivial⟩
  | exact⟨rfl,rfl,rfl,trivial⟩
  | exact trivial
  | (exfalso;clear nQ nX;lia)
  | assumption
  | trace_state
theorem rmul_nnPN {a b Y:Int} (sa:¬ a<0) (sb:b<0) (nY:Y=IntKind.i64.wrap (0-b)) {Q:Int} (nQ:Q=IntKind.i64.wrap (Int.tdiv 9007199254740992 a)) (hX:¬ a=0→¬ Q<Y) {q:Int} (nq:q=IntKind.i64.wrap (a * b)):Fn prog 85 [.agg (numV a).enc,.agg (numV b).enc] [] [.agg (numV q).enc,.bool true] []:=by
 have k1:=rnum_fn q
 refine go (fn:=Proofs.Tryz.f85) (n:=66) (rv:=[ResultVar.cell 4 37,ResultVar.tmp 5]) rfl (by decide) rfl (by decide +kernel) rfl rfl (by simp) fun F L C=>?_
 cbv
 (repeat' first|(refine Named.atG Y nY ?_;cbv)|(refine Named.atG Q nQ ?_;cbv)|(refine Named.atG q nq ?_;cbv)|(refine Na ?_ fun _ _=>?_;(focus lia);cbv)|(refine CallThen.mk _ _ (C.fn (k1)) ?_;cbv)|(refine Nl fun _ _ hq=>?_;(try simp only [lenS] at hq);cbv)|(refine Nm fun _ _=>?_;cbv)|(refine Br.t ?_ ?_;(focus first|assumption|lia);cbv)|(refine Br.f ?_ ?_;(focus first|assumption|lia);cbv)|(refine Br.mk (fun _=>?_) (fun _=>?_)<;>cbv)|(refine Need.mk ?_ ?_;rotate_left;cbv)|(refine R0 ?_;cbv))
 all_goals first
  | exact⟨rfl,rfl,trivial⟩
  | exact⟨rfl,rfl,rfl,trivial⟩
  | exact trivial
  | (exfalso;clear k1 nq nQ nY;lia)
  | assumption
  | trace_state
theorem rmul_nnFPN {a b Y:Int} (sa:¬ a<0) (sb:b<0) (nY:Y=IntKind.i64.wrap (0-b)) {Q:Int} (nQ:Q=IntKind.i64.wrap (Int.tdiv 9007199254740992 a)) (h0:¬ a=0) (hX:Q<Y):Fn prog 85 [.agg (numV a).enc,.agg (numV b).enc] [] [.agg zeroV.enc,.bool false] []:=by
 skip
 refine go (fn:=Proofs.Tryz.f85) (n:=66) (rv:=[ResultVar.cell 4 37,ResultVar.tmp 5]) rfl (by decide) rfl (by decide +kernel) rfl rfl (by simp) fun F L C=>?_
 cbv
 (repeat' first|(refine Named.atG Y nY ?_;cbv)|(refine Named.atG Q nQ ?_;cbv)|(refine Na ?_ fun _ _=>?_;(focus lia);cbv)|(refine Nl fun _ _ hq=>?_;(try simp only [lenS] at hq);cbv)|(refine Nm fun _ _=>?_;cbv)|(refine Br.t ?_ ?_;(focus first|assumption|lia);cbv)|(refine Br.f ?_ ?_;(focus first|assumption|lia);cbv)|(refine Br.mk (fun _=>?_) (fun _=>?_)<;>cbv)|(refine Need.mk ?_ ?_;rotate_left;cbv)|(refine R0 ?_;cbv))
 all_goals first
  | exact⟨rfl,rfl,trivial⟩
  | exact⟨rfl,rfl,rfl,trivial⟩
  | exact trivial
  | (exfalso;clear nQ nY;lia)
  | assumption
  | trace_state
theorem rmul_nnPP {a b:Int} (sa:¬ a<0) (sb:¬ b<0) {Q:Int} (nQ:Q=IntKind.i64.wrap (Int.tdiv 9007199254740992 a)) (hX:¬ a=0→¬ Q<b) {q:Int} (nq:q=IntKind.i64.wrap (a * b)):Fn prog 85 [.agg (numV a).enc,.agg (numV b).enc] [] [.agg (numV q).enc,.bool true] []:=by
 have k1:=rnum_fn q
 refine go (fn:=Proofs.Tryz.f85) (n:=66) (rv:=[ResultVar.cell 4 37,ResultVar.tmp 5]) rfl (by decide) rfl (by decide +kernel) rfl rfl (by simp) fun F L C=>?_
 cbv
 (repeat' first|(refine Named.atG Q nQ ?_;cbv)|(refine Named.atG q nq ?_;cbv)|(refine Na ?_ fun _ _=>?_;(focus lia);cbv)|(refine CallThen.mk _ _ (C.fn (k1)) ?_;cbv)|(refine Nl fun _ _ hq=>?_;(try simp only [lenS] at hq);cbv)|(refine Nm fun _ _=>?_;cbv)|(refine Br.t ?_ ?_;(focus first|assumption|lia);cbv)|(refine Br.f ?_ ?_;(focus first|assumption|lia);cbv)|(refine Br.mk (fun _=>?_) (fun _=>?_)<;>cbv)|(refine Need.mk ?_ ?_;rotate_left;cbv)|(refine R0 ?_;cbv))
 all_goals first
  | exact⟨rfl,rfl,trivial⟩
  | exact⟨rfl,rfl,rfl,trivial⟩
  | exact trivial
  | (exfalso;clear k1 nq nQ;lia)
  | assumption
  | trace_state
theorem rmul_nnFPP {a b:Int} (sa:¬ a<0) (sb:¬ b<0) {Q:Int} (nQ:Q=IntKind.i64.wrap (Int.tdiv 9007199254740992 a)) (h0:¬ a=0) (hX:Q<b):Fn prog 85 [.agg (numV a).enc,.agg (numV b).enc] [] [.agg zeroV.enc,.bool false] []:=by
 skip
 refine go (fn:=Proofs.Tryz.f85) (n:=66) (rv:=[ResultVar.cell 4 37,ResultVar.tmp 5]) rfl (by decide) rfl (by decide +kernel) rfl rfl (by simp) fun F L C=>?_
 cbv
 (repeat' first|(refine Named.atG Q nQ ?_;cbv)|(refine Na ?_ fun _ _=>?_;(focus lia);cbv)|(refine Nl fun _ _ hq=>?_;(try simp only [lenS] at hq);cbv)|(refine Nm fun _ _=>?_;cbv)|(refine Br.t ?_ ?_;(focus first|assumption|lia);cbv)|(refine Br.f ?_ ?_;(focus first|assumption|lia);cbv)|(refine Br.mk (fun _=>?_) (fun _=>?_)<;>cbv)|(refine Need.mk ?_ ?_;rotate_left;cbv)|(refine R0 ?_;cbv))
 all_goals first
  | exact⟨rfl,rfl,trivial⟩
  | exact⟨rfl,rfl,rfl,trivial⟩
  | exact trivial
  | (exfalso;clear nQ;lia)
  | assumption
  | trace_state
end Go.Sym
