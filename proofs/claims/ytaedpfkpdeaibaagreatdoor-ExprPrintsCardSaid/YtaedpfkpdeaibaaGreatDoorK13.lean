/- Values of expressions: sums and products with points (walks). -/
import Derived.Test.YtaedpfkpdeaibaaGreatDoorK12
set_option linter.all false
set_option linter.unusedVariables false
set_option linter.unusedSimpArgs false
namespace Go.Sym
open Go Go.Proofs.Tryz
set_option maxRecDepth 100000
theorem two_npT {n x y g1 g2 e:Int} (hp:gOk x y=true) (ho:gOk n 0=true) (hg:gRes n 0 x y (n * x-0 * y) (n * y+0 * x)=(g1,g2,e)) (he:e=0):Fn prog 55 [.int .i64 4,.agg (numV n).enc,.agg (pointV x y).enc] [] [.agg (pointV g1 g2).enc,.bool true] []:=by
 have k1:=epoint_n n;rw[ho] at k1;have k2:=epoint_p hp;have km:=gmul_fn n 0 x y;rw[hg] at km;have kp:=point_fn Opq.id g1 g2;clear hp ho hg
 refine go (fn:=Proofs.Tryz.f55) (n:=140) (rv:=[ResultVar.cell 6 37,ResultVar.tmp 7]) rfl (by decide) rfl (by decide +kernel) rfl rfl (by simp) fun F L C=>?_
 cbv
 (repeat' first|(refine Na ?_ fun _ _=>?_;(focus lia);cbv)|(refine CallThen.mk _ _ (C.fn (k1)) ?_;cbv)|(refine CallThen.mk _ _ (C.fn (k2)) ?_;cbv)|(refine CallThen.mk _ _ (C.fn (km)) ?_;cbv)|(refine CallThen.mk _ _ (C.fn (kp)) ?_;cbv)|(refine Nl fun _ _ hq=>?_;(try simp only [lenS] at hq);cbv)|(refine Nm fun _ _=>?_;cbv)|(refine Br.t ?_ ?_;(focus first|assumption|lia);cbv)|(refine Br.f ?_ ?_;(focus first|assumption|lia);cbv)|(refine Br.mk (fun _=>?_) (fun _=>?_)<;>cbv)|(refine Need.mk ?_ ?_;rotate_left;cbv)|(refine R0 ?_;cbv))
 all_goals first
  | exact⟨rfl,rfl,trivial⟩
  | exact⟨rfl,rfl,rfl,trivial⟩
  | exact⟨rfl,rfl,rfl,rfl,trivial⟩
  | exact⟨rfl,rfl,rfl,rfl,rfl,trivial⟩
  | exact⟨rfl,rfl,rfl,rfl,rfl,rfl,trivial⟩
  | (exfalso;clear k1 k2 km kp;lia)
  | trace_state
  | trace_state
theorem two_npF {n x y g1 g2 e:Int} (hp:gOk x y=true) (ho:gOk n 0=true) (hg:gRes n 0 x y (n * x-0 * y) (n * y+0 * x)=(g1,g2,e)) (he:¬ e=0):Fn prog 55 [.int .i64 4,.agg (numV n).enc,.agg (pointV x y).enc] [] [.agg (pointV g1 g2).enc,.bool false] []:=by
 have k1:=epoint_n n;rw[ho] at k1;have k2:=epoint_p hp;have km:=gmul_fn n 0 x y;rw[hg] at km;have kp:=point_fn Opq.id g1 g2;clear hp ho hg
 refine go (fn:=Proofs.Tryz.f55) (n:=140) (rv:=[ResultVar.cell 6 37,ResultVar.tmp 7]) rfl (by decide) rfl (by decide +kernel) rfl rfl (by simp) fun F L C=>?_
 cbv
 (repeat' first|(refine Na ?_ fun _ _=>?_;(focus lia);cbv)|(refine CallThen.mk _ _ (C.fn (k1)) ?_;cbv)|(refine CallThen.mk _ _ (C.fn (k2)) ?_;cbv)|(refine CallThen.mk _ _ (C.fn (km)) ?_;cbv)|(refine CallThen.mk _ _ (C.fn (kp)) ?_;cbv)|(refine Nl fun _ _ hq=>?_;(try simp only [lenS] at hq);cbv)|(refine Nm fun _ _=>?_;cbv)|(refine Br.t ?_ ?_;(focus first|assumption|lia);cbv)|(refine Br.f ?_ ?_;(focus first|assumption|lia);cbv)|(refine Br.mk (fun _=>?_) (fun _=>?_)<;>cbv)|(refine Need.mk ?_ ?_;rotate_left;cbv)|(refine R0 ?_;cbv))
 all_goals first
  | exact⟨rfl,rfl,trivial⟩
  | exact⟨rfl,rfl,rfl,trivial⟩
  | exact⟨rfl,rfl,rfl,rfl,trivial⟩
  | exact⟨rfl,rfl,rfl,rfl,rfl,trivial⟩
  | exact⟨rfl,rfl,rfl,rfl,rfl,rfl,trivial⟩
  | (exfalso;clear k1 k2 km kp;lia)
  | trace_state
  | trace_state
theorem two_npG {n x y g1 g2 e:Int} (hp:gOk x y=true) (ho:gOk n 0=false) (hg:gRes n 0 x y (n * x-0 * y) (n * y+0 * x)=(g1,g2,e)) (he:e=e):Fn prog 55 [.int .i64 4,.agg (numV n).enc,.agg (pointV x y).enc] [] [.agg (pointV g1 g2).enc,.bool false] []:=by
 have k1:=epoint_n n;rw[ho] at k1;have k2:=epoint_p hp;have km:=gmul_fn n 0 x y;rw[hg] at km;have kp:=point_fn Opq.id g1 g2;clear hp ho hg
 refine go (fn:=Proofs.Tryz.f55) (n:=140) (rv:=[ResultVar.cell 6 37,ResultVar.tmp 7]) rfl (by decide) rfl (by decide +kernel) rfl rfl (by simp) fun F L C=>?_
 cbv
 (repeat' first|(refine Na ?_ fun _ _=>?_;(focus lia);cbv)|(refine CallThen.mk _ _ (C.fn (k1)) ?_;cbv)|(refine CallThen.mk _ _ (C.fn (k2)) ?_;cbv)|(refine CallThen.mk _ _ (C.fn (km)) ?_;cbv)|(refine CallThen.mk _ _ (C.fn (kp)) ?_;cbv)|(refine Nl fun _ _ hq=>?_;(try simp only [lenS] at hq);cbv)|(refine Nm fun _ _=>?_;cbv)|(refine Br.t ?_ ?_;(focus first|assumption|lia);cbv)|(refine Br.f ?_ ?_;(focus first|assumption|lia);cbv)|(refine Br.mk (fun _=>?_) (fun _=>?_)<;>cbv)|(refine Need.mk ?_ ?_;rotate_left;cbv)|(refine R0 ?_;cbv))
 all_goals first
  | exact⟨rfl,rfl,trivial⟩
  | exact⟨rfl,rfl,rfl,trivial⟩
  | exact⟨rfl,rfl,rfl,rfl,trivial⟩
  | exact⟨rfl,rfl,rfl,rfl,rfl,trivial⟩
  | exact⟨rfl,rfl,rfl,rfl,rfl,rfl,trivial⟩
  | (exfalso;clear k1 k2 km kp;lia)
  | trace_state
  | trace_state
theorem two_pnT {n x y g1 g2 e:Int} (hp:gOk x y=true) (ho:gOk n 0=true) (hg:gRes x y n 0 (x * n-y * 0) (x * 0+y * n)=(g1,g2,e)) (he:e=0):Fn prog 55 [.int .i64 4,.agg (pointV x y).enc,.agg (numV n).enc] [] [.agg (pointV g1 g2).enc,.bool true] []:=by
 have k1:=epoint_n n;rw[ho] at k1;have k2:=epoint_p hp;have km:=gmul_fn x y n 0;rw[hg] at km;have kp:=point_fn Opq.id g1 g2;clear hp ho hg
 refine go (fn:=Proofs.Tryz.f55) (n:=140) (rv:=[ResultVar.cell 6 37,ResultVar.tmp 7]) rfl (by decide) rfl (by decide +kernel) rfl rfl (by simp) fun F L C=>?_
 cbv
 (repeat' first|(refine Na ?_ fun _ _=>?_;(focus lia);cbv)|(refine CallThen.mk _ _ (C.fn (k1)) ?_;cbv)|(refine CallThen.mk _ _ (C.fn (k2)) ?_;cbv)|(refine CallThen.mk _ _ (C.fn (km)) ?_;cbv)|(refine CallThen.mk _ _ (C.fn (kp)) ?_;cbv)|(refine Nl fun _ _ hq=>?_;(try simp only [lenS] at hq);cbv)|(refine Nm fun _ _=>?_;cbv)|(refine Br.t ?_ ?_;(focus first|assumption|lia);cbv)|(refine Br.f ?_ ?_;(focus first|assumption|lia);cbv)|(refine Br.mk (fun _=>?_) (fun _=>?_)<;>cbv)|(refine Need.mk ?_ ?_;rotate_left;cbv)|(refine R0 ?_;cbv))
 all_goals first
  | exact⟨rfl,rfl,trivial⟩
  | exact⟨rfl,rfl,rfl,trivial⟩
  | exact⟨rfl,rfl,rfl,rfl,trivial⟩
  | exact⟨rfl,rfl,rfl,rfl,rfl,trivial⟩
  | exact⟨rfl,rfl,rfl,rfl,rfl,rfl,trivial⟩
  | (exfalso;clear k1 k2 km kp;lia)
  | trace_state
  | trace_state
theorem two_pnF {n x y g1 g2 e:Int} (hp:gOk x y=true) (ho:gOk n 0=true) (hg:gRes x y n 0 (x * n-y * 0) (x * 0+y * n)=(g1,g2,e)) (he:¬ e=0):Fn prog 55 [.int .i64 4,.agg (pointV x y).enc,.agg (numV n).enc] [] [.agg (pointV g1 g2).enc,.bool false] []:=by
 have k1:=epoint_n n;rw[ho] at k1;have k2:=epoint_p hp;have km:=gmul_fn x y n 0;rw[hg] at km;have kp:=point_fn Opq.id g1 g2;clear hp ho hg
 refine go (fn:=Proofs.Tryz.f55) (n:=140) (rv:=[ResultVar.cell 6 37,ResultVar.tmp 7]) rfl (by decide) rfl (by decide +kernel) rfl rfl (by simp) fun F L C=>?_
 cbv
 (repeat' first|(refine Na ?_ fun _ _=>?_;(focus lia);cbv)|(refine CallThen.mk _ _ (C.fn (k1)) ?_;cbv)|(refine CallThen.mk _ _ (C.fn (k2)) ?_;cbv)|(refine CallThen.mk _ _ (C.fn (km)) ?_;cbv)|(refine CallThen.mk _ _ (C.fn (kp)) ?_;cbv)|(refine Nl fun _ _ hq=>?_;(try simp only [lenS] at hq);cbv)|(refine Nm fun _ _=>?_;cbv)|(refine Br.t ?_ ?_;(focus first|assumption|lia);cbv)|(refine Br.f ?_ ?_;(focus first|assumption|lia);cbv)|(refine Br.mk (fun _=>?_) (fun _=>?_)<;>cbv)|(refine Need.mk ?_ ?_;rotate_left;cbv)|(refine R0 ?_;cbv))
 all_goals first
  | exact⟨rfl,rfl,trivial⟩
  | exact⟨rfl,rfl,rfl,trivial⟩
  | exact⟨rfl,rfl,rfl,rfl,trivial⟩
  | exact⟨rfl,rfl,rfl,rfl,rfl,trivial⟩
  | exact⟨rfl,rfl,rfl,rfl,rfl,rfl,trivial⟩
  | (exfalso;clear k1 k2 km kp;lia)
  | trace_state
  | trace_state
theorem two_pnG {n x y g1 g2 e:Int} (hp:gOk x y=true) (ho:gOk n 0=false) (hg:gRes x y n 0 (x * n-y * 0) (x * 0+y * n)=(g1,g2,e)) (he:e=e):Fn prog 55 [.int .i64 4,.agg (pointV x y).enc,.agg (numV n).enc] [] [.agg (pointV g1 g2).enc,.bool false] []:=by
 have k1:=epoint_n n;rw[ho] at k1;have k2:=epoint_p hp;have km:=gmul_fn x y n 0;rw[hg] at km;have kp:=point_fn Opq.id g1 g2;clear hp ho hg
 refine go (fn:=Proofs.Tryz.f55) (n:=140) (rv:=[ResultVar.cell 6 37,ResultVar.tmp 7]) rfl (by decide) rfl (by decide +kernel) rfl rfl (by simp) fun F L C=>?_
 cbv
 (repeat' first|(refine Na ?_ fun _ _=>?_;(focus lia);cbv)|(refine CallThen.mk _ _ (C.fn (k1)) ?_;cbv)|(refine CallThen.mk _ _ (C.fn (k2)) ?_;cbv)|(refine CallThen.mk _ _ (C.fn (km)) ?_;cbv)|(refine CallThen.mk _ _ (C.fn (kp)) ?_;cbv)|(refine Nl fun _ _ hq=>?_;(try simp only [lenS] at hq);cbv)|(refine Nm fun _ _=>?_;cbv)|(refine Br.t ?_ ?_;(focus first|assumption|lia);cbv)|(refine Br.f ?_ ?_;(focus first|assumption|lia);cbv)|(refine Br.mk (fun _=>?_) (fun _=>?_)<;>cbv)|(refine Need.mk ?_ ?_;rotate_left;cbv)|(refine R0 ?_;cbv))
 all_goals first
  | exact⟨rfl,rfl,trivial⟩
  | exact⟨rfl,rfl,rfl,trivial⟩
  | exact⟨rfl,rfl,rfl,rfl,trivial⟩
  | exact⟨rfl,rfl,rfl,rfl,rfl,trivial⟩
  | exact⟨rfl,rfl,rfl,rfl,rfl,rfl,trivial⟩
  | (exfalso;clear k1 k2 km kp;lia)
  | trace_state
  | trace_state
theorem two_pp3T {x y u v g1 g2 e:Int} (hp:gOk x y=true) (hq:gOk u v=true) (hg:gRes x y u v (x+u) (y+v)=(g1,g2,e)) (he:e=0) {d1 d2 e2:Int} (hd:gRes x y u v (x * u-y * v) (x * v+y * u)=(d1,d2,e2)):Fn prog 55 [.int .i64 3,.agg (pointV x y).enc,.agg (pointV u v).enc] [] [.agg (pointV g1 g2).enc,.bool true] []:=by
 have k1:=epoint_p hp;have k2:=epoint_p hq;have km:=gmul_fn x y u v;rw[hd] at km;have ka:=gadd_fn x y u v;rw[hg] at ka;have kp:=point_fn Opq.id g1 g2;clear hp hq hg hd
 refine go (fn:=Proofs.Tryz.f55) (n:=140) (rv:=[ResultVar.cell 6 37,ResultVar.tmp 7]) rfl (by decide) rfl (by decide +kernel) rfl rfl (by simp) fun F L C=>?_
 cbv
 (repeat' first|(refine Na ?_ fun _ _=>?_;(focus lia);cbv)|(refine CallThen.mk _ _ (C.fn (k1)) ?_;cbv)|(refine CallThen.mk _ _ (C.fn (k2)) ?_;cbv)|(refine CallThen.mk _ _ (C.fn (km)) ?_;cbv)|(refine CallThen.mk _ _ (C.fn (ka)) ?_;cbv)|(refine CallThen.mk _ _ (C.fn (kp)) ?_;cbv)|(refine Nl fun _ _ hq=>?_;(try simp only [lenS] at hq);cbv)|(refine Nm fun _ _=>?_;cbv)|(refine Br.t ?_ ?_;(focus first|assumption|lia);cbv)|(refine Br.f ?_ ?_;(focus first|assumption|lia);cbv)|(refine Br.mk (fun _=>?_) (fun _=>?_)<;>cbv)|(refine Need.mk ?_ ?_;rotate_left;cbv)|(refine R0 ?_;cbv))
 all_goals first
  | exact⟨rfl,rfl,trivial⟩
  | exact⟨rfl,rfl,rfl,trivial⟩
  | exact⟨rfl,rfl,rfl,rfl,trivial⟩
  | exact⟨rfl,rfl,rfl,rfl,rfl,trivial⟩
  | exact⟨rfl,rfl,rfl,rfl,rfl,rfl,trivial⟩
  | (exfalso;clear k1 k2 km ka kp;lia)
  | trace_state
  | trace_state
theorem two_pp3F {x y u v g1 g2 e:Int} (hp:gOk x y=true) (hq:gOk u v=true) (hg:gRes x y u v (x+u) (y+v)=(g1,g2,e)) (he:¬ e=0) {d1 d2 e2:Int} (hd:gRes x y u v (x * u-y * v) (x * v+y * u)=(d1,d2,e2)):Fn prog 55 [.int .i64 3,.agg (pointV x y).enc,.agg (pointV u v).enc] [] [.agg (pointV g1 g2).enc,.bool false] []:=by
 have k1:=epoint_p hp;have k2:=epoint_p hq;have km:=gmul_fn x y u v;rw[hd] at km;have ka:=gadd_fn x y u v;rw[hg] at ka;have kp:=point_fn Opq.id g1 g2;clear hp hq hg hd
 refine go (fn:=Proofs.Tryz.f55) (n:=140) (rv:=[ResultVar.cell 6 37,ResultVar.tmp 7]) rfl (by decide) rfl (by decide +kernel) rfl rfl (by simp) fun F L C=>?_
 cbv
 (repeat' first|(refine Na ?_ fun _ _=>?_;(focus lia);cbv)|(refine CallThen.mk _ _ (C.fn (k1)) ?_;cbv)|(refine CallThen.mk _ _ (C.fn (k2)) ?_;cbv)|(refine CallThen.mk _ _ (C.fn (km)) ?_;cbv)|(refine CallThen.mk _ _ (C.fn (ka)) ?_;cbv)|(refine CallThen.mk _ _ (C.fn (kp)) ?_;cbv)|(refine Nl fun _ _ hq=>?_;(try simp only [lenS] at hq);cbv)|(refine Nm fun _ _=>?_;cbv)|(refine Br.t ?_ ?_;(focus first|assumption|lia);cbv)|(refine Br.f ?_ ?_;(focus first|assumption|lia);cbv)|(refine Br.mk (fun _=>?_) (fun _=>?_)<;>cbv)|(refine Need.mk ?_ ?_;rotate_left;cbv)|(refine R0 ?_;cbv))
 all_goals first
  | exact⟨rfl,rfl,trivial⟩
  | exact⟨rfl,rfl,rfl,trivial⟩
  | exact⟨rfl,rfl,rfl,rfl,trivial⟩
  | exact⟨rfl,rfl,rfl,rfl,rfl,trivial⟩
  | exact⟨rfl,rfl,rfl,rfl,rfl,rfl,trivial⟩
  | (exfalso;clear k1 k2 km ka kp;lia)
  | trace_state
  | trace_state
theorem two_pp4T {x y u v g1 g2 e:Int} (hp:gOk x y=true) (hq:gOk u v=true) (hg:gRes x y u v (x * u-y * v) (x * v+y * u)=(g1,g2,e)) (he:e=0):Fn prog 55 [.int .i64 4,.agg (pointV x y).enc,.agg (pointV u v).enc] [] [.agg (pointV g1 g2).enc,.bool true] []:=by
 have k1:=epoint_p hp;have k2:=epoint_p hq;have km:=gmul_fn x y u v;rw[hg] at km;have kp:=point_fn Opq.id g1 g2;clear hp hq hg
 refine go (fn:=Proofs.Tryz.f55) (n:=140) (rv:=[ResultVar.cell 6 37,ResultVar.tmp 7]) rfl (by decide) rfl (by decide +kernel) rfl rfl (by simp) fun F L C=>?_
 cbv
 (repeat' first|(refine Na ?_ fun _ _=>?_;(focus lia);cbv)|(refine CallThen.mk _ _ (C.fn (k1)) ?_;cbv)|(refine CallThen.mk _ _ (C.fn (k2)) ?_;cbv)|(refine CallThen.mk _ _ (C.fn (km)) ?_;cbv)|(refine CallThen.mk _ _ (C.fn (kp)) ?_;cbv)|(refine Nl fun _ _ hq=>?_;(try simp only [lenS] at hq);cbv)|(refine Nm fun _ _=>?_;cbv)|(refine Br.t ?_ ?_;(focus first|assumption|lia);cbv)|(refine Br.f ?_ ?_;(focus first|assumption|lia);cbv)|(refine Br.mk (fun _=>?_) (fun _=>?_)<;>cbv)|(refine Need.mk ?_ ?_;rotate_left;cbv)|(refine R0 ?_;cbv))
 all_goals first
  | exact⟨rfl,rfl,trivial⟩
  | exact⟨rfl,rfl,rfl,trivial⟩
  | exact⟨rfl,rfl,rfl,rfl,trivial⟩
  | exact⟨rfl,rfl,rfl,rfl,rfl,trivial⟩
  | exact⟨rfl,rfl,rfl,rfl,rfl,rfl,trivial⟩
  | (exfalso;clear k1 k2 km kp;lia)
  | trace_state
  | trace_state
theorem two_pp4F {x y u v g1 g2 e:Int} (hp:gOk x y=true) (hq:gOk u v=true) (hg:gRes x y u v (x * u-y * v) (x * v+y * u)=(g1,g2,e)) (he:¬ e=0):Fn prog 55 [.int .i64 4,.agg (pointV x y).enc,.agg (pointV u v).enc] [] [.agg (pointV g1 g2).enc,.bool false] []:=by
 have k1:=epoint_p hp;have k2:=epoint_p hq;have km:=gmul_fn x y u v;rw[hg] at km;have kp:=point_fn Opq.id g1 g2;clear hp hq hg
 refine go (fn:=Proofs.Tryz.f55) (n:=140) (rv:=[ResultVar.cell 6 37,ResultVar.tmp 7]) rfl (by decide) rfl (by decide +kernel) rfl rfl (by simp) fun F L C=>?_
 cbv
 (repeat' first|(refine Na ?_ fun _ _=>?_;(focus lia);cbv)|(refine CallThen.mk _ _ (C.fn (k1)) ?_;cbv)|(refine CallThen.mk _ _ (C.fn (k2)) ?_;cbv)|(refine CallThen.mk _ _ (C.fn (km)) ?_;cbv)|(refine CallThen.mk _ _ (C.fn (kp)) ?_;cbv)|(refine Nl fun _ _ hq=>?_;(try simp only [lenS] at hq);cbv)|(refine Nm fun _ _=>?_;cbv)|(refine Br.t ?_ ?_;(focus first|assumption|lia);cbv)|(refine Br.f ?_ ?_;(focus first|assumption|lia);cbv)|(refine Br.mk (fun _=>?_) (fun _=>?_)<;>cbv)|(refine Need.mk ?_ ?_;rotate_left;cbv)|(refine R0 ?_;cbv))
 all_goals first
  | exact⟨rfl,rfl,trivial⟩
  | exact⟨rfl,rfl,rfl,trivial⟩
  | exact⟨rfl,rfl,rfl,rfl,trivial⟩
  | exact⟨rfl,rfl,rfl,rfl,rfl,trivial⟩
  | exact⟨rfl,rfl,rfl,rfl,rfl,rfl,trivial⟩
  | (exfalso;clear k1 k2 km kp;lia)
  | trace_state
  | trace_state
theorem okB_false (v:Val):okB false v=none:=by simp [okB]
theorem okB_bad {v:Val} (h:¬ v.Ok) (B:Bool):okB B v=none:=by simp [okB,h]
theorem gRes_cases (a1 a2 b1 b2 c1 c2:Int):(gOk a1 a2=true∧gOk b1 b2=true∧gOk c1 c2=true∧gRes a1 a2 b1 b2 c1 c2=(c1,c2,0)) ∨
  (∃ e,gRes a1 a2 b1 b2 c1 c2=(0,0,e)∧¬ e=0∧¬ (gOk a1 a2=true∧gOk b1 b2=true∧gOk c1 c2=true)):=by
 unfold gRes
 split
 ·rename_i h
  split
  ·rename_i h2;exact .inl ⟨h.1,h.2,h2,rfl⟩
  ·rename_i h2;exact .inr ⟨3,rfl,by decide,fun q=>h2 q.2.2⟩
 ·rename_i h;exact .inr ⟨1,rfl,by decide,fun q=>h ⟨q.1,q.2.1⟩⟩
theorem two_all {k : Int} (hk : k = 3 ∨ k = 4) {a b : Val} (ha : a.Ok) (hb : b.Ok) : ∃ v B, Fn prog 55 [.int .i64 k, .agg a.enc, .agg b.enc] [] [.agg (Val.enc v), .bool B] [] ∧ okV (twoO k a b) = okB B v := by
  rcases val_cases ha with ⟨m, rfl, hm⟩ | ⟨x, y, rfl, hp⟩ | ⟨s, rfl, hs⟩
  · rcases val_cases hb with ⟨n, rfl, hn⟩ | ⟨u, v, rfl, hq⟩ | ⟨t, rfl, ht⟩
    · rcases hk with rfl | rfl
      · exact ⟨_, _, two_nn3 hm hn rfl, okV_is (by simp [twoO, numV])⟩
      · have e : twoO 4 (numV m) (numV n) = some (numV (m * n)) := by simp [twoO, numV]
        rw [e]
        by_cases h0 : m = 0
        · subst h0
          exact ⟨_, _, two_nn0 hn rfl, okV_is (by rw [Int.zero_mul])⟩
        · rcases prod_fits hm hn h0 with ⟨h1, h2⟩ | ⟨h1, h2⟩
          · exact ⟨_, _, two_nnT h0 rfl rfl h1, okV_is (by rw [h2])⟩
          · exact ⟨_, _, two_nnF h0 rfl rfl h1, okV_not (okV_bad fun q => h2 (numV_ok.1 q))⟩
    · rcases hk with rfl | rfl
      · exact ⟨_, _, two_np3, okV_not (by simp [twoO, numV, pointV, okV])⟩
      · have e : twoO 4 (numV m) (pointV u v) = if gOk m 0 = true then some (pointV (m * u - 0 * v) (m * v + 0 * u)) else none := by
          by_cases hg : gOk m 0 = true <;> simp [twoO, numV, pointV, asP, hg, mulP]
        rw [e]
        by_cases ho : gOk m 0 = true
        · rw [if_pos ho]
          rcases gRes_cases m 0 u v (m * u - 0 * v) (m * v + 0 * u) with ⟨_, _, h3, hg⟩ | ⟨e, hg, he, hn⟩
          · exact ⟨_, _, two_npT hq ho hg rfl, okV_is rfl⟩
          · exact ⟨_, _, two_npF hq ho hg he, okV_not (okV_bad fun q => hn ⟨ho, hq, pointV_ok.1 q⟩)⟩
        · rw [if_neg ho]
          exact ⟨_, _, two_npG hq (by simpa using ho) rfl rfl, okV_not rfl⟩
    · exact ⟨_, _, two_xt hk rfl ht (.inl rfl) rfl, okV_not (by simp [twoO, numV, textV, okV])⟩
  · rcases val_cases hb with ⟨n, rfl, hn⟩ | ⟨u, v, rfl, hq⟩ | ⟨t, rfl, ht⟩
    · rcases hk with rfl | rfl
      · exact ⟨_, _, two_pn3, okV_not (by simp [twoO, numV, pointV, okV])⟩
      · have e : twoO 4 (pointV x y) (numV n) = if gOk n 0 = true then some (pointV (x * n - y * 0) (x * 0 + y * n)) else none := by
          by_cases hg : gOk n 0 = true <;> simp [twoO, numV, pointV, asP, hg, mulP]
        rw [e]
        by_cases ho : gOk n 0 = true
        · rw [if_pos ho]
          rcases gRes_cases x y n 0 (x * n - y * 0) (x * 0 + y * n) with ⟨_, _, h3, hg⟩ | ⟨e, hg, he, hn⟩
          · exact ⟨_, _, two_pnT hp ho hg rfl, okV_is rfl⟩
          · exact ⟨_, _, two_pnF hp ho hg he, okV_not (okV_bad fun q => hn ⟨hp, ho, pointV_ok.1 q⟩)⟩
        · rw [if_neg ho]
          exact ⟨_, _, two_pnG hp (by simpa using ho) rfl rfl, okV_not rfl⟩
    · rcases hk with rfl | rfl
      · have e : twoO 3 (pointV x y) (pointV u v) = some (pointV (x + u) (y + v)) := by simp [twoO, pointV]
        rw [e]
        rcases gRes_cases x y u v (x + u) (y + v) with ⟨_, _, h3, hg⟩ | ⟨e, hg, he, hn⟩
        · exact ⟨_, _, two_pp3T hp hq hg rfl rfl, okV_is rfl⟩
        · exact ⟨_, _, two_pp3F hp hq hg he rfl, okV_not (okV_bad fun q => hn ⟨hp, hq, pointV_ok.1 q⟩)⟩
      · have e : twoO 4 (pointV x y) (pointV u v) = some (pointV (x * u - y * v) (x * v + y * u)) := by simp [twoO, pointV, asP, mulP]
        rw [e]
        rcases gRes_cases x y u v (x * u - y * v) (x * v + y * u) with ⟨_, _, h3, hg⟩ | ⟨e, hg, he, hn⟩
        · exact ⟨_, _, two_pp4T hp hq hg rfl, okV_is rfl⟩
        · exact ⟨_, _, two_pp4F hp hq hg he, okV_not (okV_bad fun q => hn ⟨hp, hq, pointV_ok.1 q⟩)⟩
    · exact ⟨_, _, two_xt hk rfl ht (.inr rfl) rfl, okV_not (by simp [twoO, pointV, textV, okV])⟩
  · rcases val_cases hb with ⟨n, rfl, hn⟩ | ⟨u, v, rfl, hq⟩ | ⟨t, rfl, ht⟩
    · exact ⟨_, _, two_tx hk rfl hs (.inl rfl) rfl, okV_not (by simp [twoO, numV, textV, okV])⟩
    · exact ⟨_, _, two_tx hk rfl hs (.inr rfl) rfl, okV_not (by simp [twoO, pointV, textV, okV])⟩
    · rcases hk with rfl | rfl
      · have e : twoO 3 (textV s) (textV t) = some (textV (s ++ t)) := by simp [twoO, textV]
        rw [e]
        by_cases h : s.size + t.size ≤ 256
        · exact ⟨_, _, two_tt1 rfl hs ht h, okV_is rfl⟩
        · exact ⟨_, _, two_tt0 rfl hs ht h, okV_not (okV_bad fun q => h (by have := textV_ok.1 q; rwa [ByteArray.size_append] at this))⟩
      · exact ⟨_, _, two_tt4 rfl hs ht, okV_not (by simp [twoO, textV, okV])⟩
/-! ### Calls -/
def bNorm:ByteArray:=⟨#[110,111,114,109]⟩
def bConj:ByteArray:=⟨#[99,111,110,106]⟩
def bTurn:ByteArray:=⟨#[116,117,114,110]⟩
def bLow:ByteArray:=⟨#[108,111,119]⟩
def bHead:ByteArray:=⟨#[104,101,97,100]⟩
theorem call_normT {k n x y:Int} {t:ByteArray} (hv:gOk x y=true) {q:Int} (hq:q=x * x+y * y) (hk:k=3):Fn prog 54 [.str bNorm,.agg (⟨k,n,t,x,y⟩:Val).enc] [] [.agg (numV q).enc,.bool true] []:=by
 have k1:=gnorm_fn x y;rw[if_pos hv,← hq] at k1;have k2:=num_fn Opq.id q;clear hv hq
 refine go (fn:=Proofs.Tryz.f54) (n:=87) (rv:=[ResultVar.cell 4 37,ResultVar.tmp 5]) rfl (by decide) rfl (by decide +kernel) rfl rfl (by simp) fun F L C=>?_
 cbv
 (repeat' first|(refine Na ?_ fun _ _=>?_;(focus lia);cbv)|(refine CallThen.mk _ _ (C.fn (k1)) ?_;cbv)|(refine CallThen.mk _ _ (C.fn (k2)) ?_;cbv)|(refine Nl fun _ _ hq=>?_;(try simp only [lenS] at hq);cbv)|(refine Nm fun _ _=>?_;cbv)|(refine Br.t ?_ ?_;(focus first|assumption|lia);cbv)|(refine Br.f ?_ ?_;(focus first|assumption|lia);cbv)|(refine Br.mk (fun _=>?_) (fun _=>?_)<;>cbv)|(refine Need.mk ?_ ?_;rotate_left;cbv)|(refine R0 ?_;cbv))
 all_goals first
  | exact⟨rfl,rfl,trivial⟩
  | exact⟨rfl,rfl,rfl,trivial⟩
  | exact⟨rfl,rfl,rfl,rfl,trivial⟩
  | exact⟨rfl,rfl,rfl,rfl,rfl,trivial⟩
  | exact⟨rfl,rfl,rfl,rfl,rfl,rfl,trivial⟩
  | (exfalso;clear k1 k2;lia)
  | trace_state
  | trace_state
theorem call_conjT {k n x y:Int} {t:ByteArray} (hv:gOk x y=true) {q:Int} (hq:q=-y) (hk:k=3):Fn prog 54 [.str bConj,.agg (⟨k,n,t,x,y⟩:Val).enc] [] [.agg (pointV x q).enc,.bool true] []:=by
 have k1:=gmirror_fn hv;rw[← hq] at k1;have k2:=point_fn Opq.id x q;clear hv hq
 refine go (fn:=Proofs.Tryz.f54) (n:=87) (rv:=[ResultVar.cell 4 37,ResultVar.tmp 5]) rfl (by decide) rfl (by decide +kernel) rfl rfl (by simp) fun F L C=>?_
 cbv
 (repeat' first|(refine Na ?_ fun _ _=>?_;(focus lia);cbv)|(refine CallThen.mk _ _ (C.fn (k1)) ?_;cbv)|(refine CallThen.mk _ _ (C.fn (k2)) ?_;cbv)|(refine Nl fun _ _ hq=>?_;(try simp only [lenS] at hq);cbv)|(refine Nm fun _ _=>?_;cbv)|(refine Br.t ?_ ?_;(focus first|assumption|lia);cbv)|(refine Br.f ?_ ?_;(focus first|assumption|lia);cbv)|(refine Br.mk (fun _=>?_) (fun _=>?_)<;>cbv)|(refine Need.mk ?_ ?_;rotate_left;cbv)|(refine R0 ?_;cbv))
 all_goals first
  | exact⟨rfl,rfl,trivial⟩
  | exact⟨rfl,rfl,rfl,trivial⟩
  | exact⟨rfl,rfl,rfl,rfl,trivial⟩
  | exact⟨rfl,rfl,rfl,rfl,rfl,trivial⟩
  | exact⟨rfl,rfl,rfl,rfl,rfl,rfl,trivial⟩
  | (exfalso;clear k1 k2;lia)
  | trace_state
  | trace_state
theorem call_turnT {k n x y:Int} {t:ByteArray} (hv:gOk x y=true) {q:Int} (hq:q=-y) (hk:k=3):Fn prog 54 [.str bTurn,.agg (⟨k,n,t,x,y⟩:Val).enc] [] [.agg (pointV q x).enc,.bool true] []:=by
 have k1:=gturn_fn hv;rw[← hq] at k1;have k2:=point_fn Opq.id q x;clear hv hq
 refine go (fn:=Proofs.Tryz.f54) (n:=87) (rv:=[ResultVar.cell 4 37,ResultVar.tmp 5]) rfl (by decide) rfl (by decide +kernel) rfl rfl (by simp) fun F L C=>?_
 cbv
 (repeat' first|(refine Na ?_ fun _ _=>?_;(focus lia);cbv)|(refine CallThen.mk _ _ (C.fn (k1)) ?_;cbv)|(refine CallThen.mk _ _ (C.fn (k2)) ?_;cbv)|(refine Nl fun _ _ hq=>?_;(try simp only [lenS] at hq);cbv)|(refine Nm fun _ _=>?_;cbv)|(refine Br.t ?_ ?_;(focus first|assumption|lia);cbv)|(refine Br.f ?_ ?_;(focus first|assumption|lia);cbv)|(refine Br.mk (fun _=>?_) (fun _=>?_)<;>cbv)|(refine Need.mk ?_ ?_;rotate_left;cbv)|(refine R0 ?_;cbv))
 all_goals first
  | exact⟨rfl,rfl,trivial⟩
  | exact⟨rfl,rfl,rfl,trivial⟩
  | exact⟨rfl,rfl,rfl,rfl,trivial⟩
  | exact⟨rfl,rfl,rfl,rfl,rfl,trivial⟩
  | exact⟨rfl,rfl,rfl,rfl,rfl,rfl,trivial⟩
  | (exfalso;clear k1 k2;lia)
  | trace_state
  | trace_state
theorem call_normF {k n x y:Int} {t:ByteArray} (hv:gOk x y=true) {q:Int} (hq:q=x * x+y * y) (hk:¬ k=3):Fn prog 54 [.str bNorm,.agg (⟨k,n,t,x,y⟩:Val).enc] [] [.agg (numV q).enc,.bool false] []:=by
 have k1:=gnorm_fn x y;rw[if_pos hv,← hq] at k1;have k2:=num_fn Opq.id q;clear hv hq
 refine go (fn:=Proofs.Tryz.f54) (n:=87) (rv:=[ResultVar.cell 4 37,ResultVar.tmp 5]) rfl (by decide) rfl (by decide +kernel) rfl rfl (by simp) fun F L C=>?_
 cbv
 (repeat' first|(refine Na ?_ fun _ _=>?_;(focus lia);cbv)|(refine CallThen.mk _ _ (C.fn (k1)) ?_;cbv)|(refine CallThen.mk _ _ (C.fn (k2)) ?_;cbv)|(refine Nl fun _ _ hq=>?_;(try simp only [lenS] at hq);cbv)|(refine Nm fun _ _=>?_;cbv)|(refine Br.t ?_ ?_;(focus first|assumption|lia);cbv)|(refine Br.f ?_ ?_;(focus first|assumption|lia);cbv)|(refine Br.mk (fun _=>?_) (fun _=>?_)<;>cbv)|(refine Need.mk ?_ ?_;rotate_left;cbv)|(refine R0 ?_;cbv))
 all_goals first
  | exact⟨rfl,rfl,trivial⟩
  | exact⟨rfl,rfl,rfl,trivial⟩
  | exact⟨rfl,rfl,rfl,rfl,trivial⟩
  | exact⟨rfl,rfl,rfl,rfl,rfl,trivial⟩
  | exact⟨rfl,rfl,rfl,rfl,rfl,rfl,trivial⟩
  | (exfalso;clear k1 k2;lia)
  | trace_state
  | trace_state
theorem call_conjF {k n x y:Int} {t:ByteArray} (hv:gOk x y=true) {q:Int} (hq:q=-y) (hk:¬ k=3):Fn prog 54 [.str bConj,.agg (⟨k,n,t,x,y⟩:Val).enc] [] [.agg (pointV x q).enc,.bool false] []:=by
 have k1:=gmirror_fn hv;rw[← hq] at k1;have k2:=point_fn Opq.id x q;clear hv hq
 refine go (fn:=Proofs.Tryz.f54) (n:=87) (rv:=[ResultVar.cell 4 37,ResultVar.tmp 5]) rfl (by decide) rfl (by decide +kernel) rfl rfl (by simp) fun F L C=>?_
 cbv
 (repeat' first|(refine Na ?_ fun _ _=>?_;(focus lia);cbv)|(refine CallThen.mk _ _ (C.fn (k1)) ?_;cbv)|(refine CallThen.mk _ _ (C.fn (k2)) ?_;cbv)|(refine Nl fun _ _ hq=>?_;(try simp only [lenS] at hq);cbv)|(refine Nm fun _ _=>?_;cbv)|(refine Br.t ?_ ?_;(focus first|assumption|lia);cbv)|(refine Br.f ?_ ?_;(focus first|assumption|lia);cbv)|(refine Br.mk (fun _=>?_) (fun _=>?_)<;>cbv)|(refine Need.mk ?_ ?_;rotate_left;cbv)|(refine R0 ?_;cbv))
 all_goals first
  | exact⟨rfl,rfl,trivial⟩
  | exact⟨rfl,rfl,rfl,trivial⟩
  | exact⟨rfl,rfl,rfl,rfl,trivial⟩
  | exact⟨rfl,rfl,rfl,rfl,rfl,trivial⟩
  | exact⟨rfl,rfl,rfl,rfl,rfl,rfl,trivial⟩
  | (exfalso;clear k1 k2;lia)
  | trace_state
  | trace_state
theorem call_turnF {k n x y:Int} {t:ByteArray} (hv:gOk x y=true) {q:Int} (hq:q=-y) (hk:¬ k=3):Fn prog 54 [.str bTurn,.agg (⟨k,n,t,x,y⟩:Val).enc] [] [.agg (pointV q x).enc,.bool false] []:=by
 have k1:=gturn_fn hv;rw[← hq] at k1;have k2:=point_fn Opq.id q x;clear hv hq
 refine go (fn:=Proofs.Tryz.f54) (n:=87) (rv:=[ResultVar.cell 4 37,ResultVar.tmp 5]) rfl (by decide) rfl (by decide +kernel) rfl rfl (by simp) fun F L C=>?_
 cbv
 (repeat' first|(refine Na ?_ fun _ _=>?_;(focus lia);cbv)|(refine CallThen.mk _ _ (C.fn (k1)) ?_;cbv)|(refine CallThen.mk _ _ (C.fn (k2)) ?_;cbv)|(refine Nl fun _ _ hq=>?_;(try simp only [lenS] at hq);cbv)|(refine Nm fun _ _=>?_;cbv)|(refine Br.t ?_ ?_;(focus first|assumption|lia);cbv)|(refine Br.f ?_ ?_;(focus first|assumption|lia);cbv)|(refine Br.mk (fun _=>?_) (fun _=>?_)<;>cbv)|(refine Need.mk ?_ ?_;rotate_left;cbv)|(refine R0 ?_;cbv))
 all_goals first
  | exact⟨rfl,rfl,trivial⟩
  | exact⟨rfl,rfl,rfl,trivial⟩
  | exact⟨rfl,rfl,rfl,rfl,trivial⟩
  | exact⟨rfl,rfl,rfl,rfl,rfl,trivial⟩
  | exact⟨rfl,rfl,rfl,rfl,rfl,rfl,trivial⟩
  | (exfalso;clear k1 k2;lia)
  | trace_state
  | trace_state
end Go.Sym
