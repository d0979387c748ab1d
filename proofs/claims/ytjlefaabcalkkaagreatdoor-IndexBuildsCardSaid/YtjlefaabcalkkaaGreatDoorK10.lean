/- Values of expressions: sums and products with points (walks). -/
import Derived.Test.YtjlefaabcalkkaaGreatDoorK9
set_option linter.all false
set_option linter.unusedVariables false
set_option linter.unusedSimpArgs false
namespace Go.Sym
open Go Go.Proofs.Tryz
set_option maxRecDepth 100000
theorem two_npT {n x y g1 g2 e:Int} (hp:gOk x y=true) (ho:gOk n 0=true) (hg:gRes n 0 x y (n * x-0 * y) (n * y+0 * x)=(g1,g2,e)) (he:e=0):Fn prog 144 [.int .i64 4,.agg (numV n).enc,.agg (pointV x y).enc] [] [.agg (pointV g1 g2).enc,.bool true] []:=by
 have k1:=epoint_n n;rw[ho] at k1;have k2:=epoint_p hp;have km:=gmul_fn n 0 x y;rw[hg] at km;have kp:=point_fn Opq.id g1 g2;clear hp ho hg
 refine go (fn:=Proofs.Tryz.f144) (n:=140) (rv:=[ResultVar.cell 6 92,ResultVar.tmp 7]) rfl (by decide) rfl (by decide +kernel) rfl rfl (by simp) fun F L C=>?_
 cbv
 (repeat' first|(refine CallThen.mk _ _ (C.fn (k1)) ?_;cbv)|(refine CallThen.mk _ _ (C.fn (k2)) ?_;cbv)|(refine CallThen.mk _ _ (C.fn (km)) ?_;cbv)|(refine CallThen.mk _ _ (C.fn (kp)) ?_;cbv)|(refine Br.t ?_ ?_;(focus first|assumption|lia);cbv)|(refine Br.f ?_ ?_;(focus first|assumption|lia);cbv)|(refine R0 ?_;cbv))
 all_goals first
  | exact⟨rfl,rfl,trivial⟩
  | exact⟨rfl,rfl,rfl,trivial⟩
  | exact⟨rfl,rfl,rfl,rfl,trivial⟩
  | exact⟨rfl,rfl,rfl,rfl,rfl,trivial⟩
  | exact⟨rfl,rfl,rfl,rfl,rfl,rfl,trivial⟩
  | (exfalso;clear k1 k2 km kp;lia)
  | trace_state
  | trace_state
theorem two_npF {n x y g1 g2 e:Int} (hp:gOk x y=true) (ho:gOk n 0=true) (hg:gRes n 0 x y (n * x-0 * y) (n * y+0 * x)=(g1,g2,e)) (he:¬ e=0):Fn prog 144 [.int .i64 4,.agg (numV n).enc,.agg (pointV x y).enc] [] [.agg (pointV g1 g2).enc,.bool false] []:=by
 have k1:=epoint_n n;rw[ho] at k1;have k2:=epoint_p hp;have km:=gmul_fn n 0 x y;rw[hg] at km;have kp:=point_fn Opq.id g1 g2;clear hp ho hg
 refine go (fn:=Proofs.Tryz.f144) (n:=140) (rv:=[ResultVar.cell 6 92,ResultVar.tmp 7]) rfl (by decide) rfl (by decide +kernel) rfl rfl (by simp) fun F L C=>?_
 cbv
 (repeat' first|(refine CallThen.mk _ _ (C.fn (k1)) ?_;cbv)|(refine CallThen.mk _ _ (C.fn (k2)) ?_;cbv)|(refine CallThen.mk _ _ (C.fn (km)) ?_;cbv)|(refine CallThen.mk _ _ (C.fn (kp)) ?_;cbv)|(refine Br.t ?_ ?_;(focus first|assumption|lia);cbv)|(refine Br.f ?_ ?_;(focus first|assumption|lia);cbv)|(refine R0 ?_;cbv))
 all_goals first
  | exact⟨rfl,rfl,trivial⟩
  | exact⟨rfl,rfl,rfl,trivial⟩
  | exact⟨rfl,rfl,rfl,rfl,trivial⟩
  | exact⟨rfl,rfl,rfl,rfl,rfl,trivial⟩
  | exact⟨rfl,rfl,rfl,rfl,rfl,rfl,trivial⟩
  | (exfalso;clear k1 k2 km kp;lia)
  | trace_state
  | trace_state
theorem two_npG {n x y g1 g2 e:Int} (hp:gOk x y=true) (ho:gOk n 0=false) (hg:gRes n 0 x y (n * x-0 * y) (n * y+0 * x)=(g1,g2,e)) (he:e=e):Fn prog 144 [.int .i64 4,.agg (numV n).enc,.agg (pointV x y).enc] [] [.agg (pointV g1 g2).enc,.bool false] []:=by
 have k1:=epoint_n n;rw[ho] at k1;have k2:=epoint_p hp;have km:=gmul_fn n 0 x y;rw[hg] at km;have kp:=point_fn Opq.id g1 g2;clear hp ho hg
 refine go (fn:=Proofs.Tryz.f144) (n:=140) (rv:=[ResultVar.cell 6 92,ResultVar.tmp 7]) rfl (by decide) rfl (by decide +kernel) rfl rfl (by simp) fun F L C=>?_
 cbv
 (repeat' first|(refine CallThen.mk _ _ (C.fn (k1)) ?_;cbv)|(refine CallThen.mk _ _ (C.fn (k2)) ?_;cbv)|(refine CallThen.mk _ _ (C.fn (km)) ?_;cbv)|(refine CallThen.mk _ _ (C.fn (kp)) ?_;cbv)|(refine Br.t ?_ ?_;(focus first|assumption|lia);cbv)|(refine Br.f ?_ ?_;(focus first|assumption|lia);cbv)|(refine R0 ?_;cbv))
 all_goals first
  | exact⟨rfl,rfl,trivial⟩
  | exact⟨rfl,rfl,rfl,trivial⟩
  | exact⟨rfl,rfl,rfl,rfl,trivial⟩
  | exact⟨rfl,rfl,rfl,rfl,rfl,trivial⟩
  | exact⟨rfl,rfl,rfl,rfl,rfl,rfl,trivial⟩
  | (exfalso;clear k1 k2 km kp;lia)
  | trace_state
  | trace_state
theorem two_pnT {n x y g1 g2 e:Int} (hp:gOk x y=true) (ho:gOk n 0=true) (hg:gRes x y n 0 (x * n-y * 0) (x * 0+y * n)=(g1,g2,e)) (he:e=0):Fn prog 144 [.int .i64 4,.agg (pointV x y).enc,.agg (numV n).enc] [] [.agg (pointV g1 g2).enc,.bool true] []:=by
 have k1:=epoint_n n;rw[ho] at k1;have k2:=epoint_p hp;have km:=gmul_fn x y n 0;rw[hg] at km;have kp:=point_fn Opq.id g1 g2;clear hp ho hg
 refine go (fn:=Proofs.Tryz.f144) (n:=140) (rv:=[ResultVar.cell 6 92,ResultVar.tmp 7]) rfl (by decide) rfl (by decide +kernel) rfl rfl (by simp) fun F L C=>?_
 cbv
 (repeat' first|(refine CallThen.mk _ _ (C.fn (k1)) ?_;cbv)|(refine CallThen.mk _ _ (C.fn (k2)) ?_;cbv)|(refine CallThen.mk _ _ (C.fn (km)) ?_;cbv)|(refine CallThen.mk _ _ (C.fn (kp)) ?_;cbv)|(refine Br.t ?_ ?_;(focus first|assumption|lia);cbv)|(refine Br.f ?_ ?_;(focus first|assumption|lia);cbv)|(refine R0 ?_;cbv))
 all_goals first
  | exact⟨rfl,rfl,trivial⟩
  | exact⟨rfl,rfl,rfl,trivial⟩
  | exact⟨rfl,rfl,rfl,rfl,trivial⟩
  | exact⟨rfl,rfl,rfl,rfl,rfl,trivial⟩
  | exact⟨rfl,rfl,rfl,rfl,rfl,rfl,trivial⟩
  | (exfalso;clear k1 k2 km kp;lia)
  | trace_state
  | trace_state
theorem two_pnF {n x y g1 g2 e:Int} (hp:gOk x y=true) (ho:gOk n 0=true) (hg:gRes x y n 0 (x * n-y * 0) (x * 0+y * n)=(g1,g2,e)) (he:¬ e=0):Fn prog 144 [.int .i64 4,.agg (pointV x y).enc,.agg (numV n).enc] [] [.agg (pointV g1 g2).enc,.bool false] []:=by
 have k1:=epoint_n n;rw[ho] at k1;have k2:=epoint_p hp;have km:=gmul_fn x y n 0;rw[hg] at km;have kp:=point_fn Opq.id g1 g2;clear hp ho hg
 refine go (fn:=Proofs.Tryz.f144) (n:=140) (rv:=[ResultVar.cell 6 92,ResultVar.tmp 7]) rfl (by decide) rfl (by decide +kernel) rfl rfl (by simp) fun F L C=>?_
 cbv
 (repeat' first|(refine CallThen.mk _ _ (C.fn (k1)) ?_;cbv)|(refine CallThen.mk _ _ (C.fn (k2)) ?_;cbv)|(refine CallThen.mk _ _ (C.fn (km)) ?_;cbv)|(refine CallThen.mk _ _ (C.fn (kp)) ?_;cbv)|(refine Br.f ?_ ?_;(focus first|assumption|lia);cbv)|(refine R0 ?_;cbv))
 all_goals first
  | exact⟨rfl,rfl,trivial⟩
  | exact⟨rfl,rfl,rfl,trivial⟩
  | exact⟨rfl,rfl,rfl,rfl,trivial⟩
  | exact⟨rfl,rfl,rfl,rfl,rfl,trivial⟩
  | exact⟨rfl,rfl,rfl,rfl,rfl,rfl,trivial⟩
  | (exfalso;clear k1 k2 km kp;lia)
  | trace_state
  | trace_state
theorem two_pnG {n x y g1 g2 e:Int} (hp:gOk x y=true) (ho:gOk n 0=false) (hg:gRes x y n 0 (x * n-y * 0) (x * 0+y * n)=(g1,g2,e)) (he:e=e):Fn prog 144 [.int .i64 4,.agg (pointV x y).enc,.agg (numV n).enc] [] [.agg (pointV g1 g2).enc,.bool false] []:=by
 have k1:=epoint_n n;rw[ho] at k1;have k2:=epoint_p hp;have km:=gmul_fn x y n 0;rw[hg] at km;have kp:=point_fn Opq.id g1 g2;clear hp ho hg
 refine go (fn:=Proofs.Tryz.f144) (n:=140) (rv:=[ResultVar.cell 6 92,ResultVar.tmp 7]) rfl (by decide) rfl (by decide +kernel) rfl rfl (by simp) fun F L C=>?_
 cbv
 (repeat' first|(refine CallThen.mk _ _ (C.fn (k1)) ?_;cbv)|(refine CallThen.mk _ _ (C.fn (k2)) ?_;cbv)|(refine CallThen.mk _ _ (C.fn (km)) ?_;cbv)|(refine CallThen.mk _ _ (C.fn (kp)) ?_;cbv)|(refine Br.f ?_ ?_;(focus first|assumption|lia);cbv)|(refine R0 ?_;cbv))
 all_goals first
  | exact⟨rfl,rfl,trivial⟩
  | exact⟨rfl,rfl,rfl,trivial⟩
  | exact⟨rfl,rfl,rfl,rfl,trivial⟩
  | exact⟨rfl,rfl,rfl,rfl,rfl,trivial⟩
  | exact⟨rfl,rfl,rfl,rfl,rfl,rfl,trivial⟩
  | (exfalso;clear k1 k2 km kp;lia)
  | trace_state
  | trace_state
theorem two_pp3T {x y u v g1 g2 e:Int} (hp:gOk x y=true) (hq:gOk u v=true) (hg:gRes x y u v (x+u) (y+v)=(g1,g2,e)) (he:e=0) {d1 d2 e2:Int} (hd:gRes x y u v (x * u-y * v) (x * v+y * u)=(d1,d2,e2)):Fn prog 144 [.int .i64 3,.agg (pointV x y).enc,.agg (pointV u v).enc] [] [.agg (pointV g1 g2).enc,.bool true] []:=by
 have k1:=epoint_p hp;have k2:=epoint_p hq;have km:=gmul_fn x y u v;rw[hd] at km;have ka:=gadd_fn x y u v;rw[hg] at ka;have kp:=point_fn Opq.id g1 g2;clear hp hq hg hd
 refine go (fn:=Proofs.Tryz.f144) (n:=140) (rv:=[ResultVar.cell 6 92,ResultVar.tmp 7]) rfl (by decide) rfl (by decide +kernel) rfl rfl (by simp) fun F L C=>?_
 cbv
 (repeat' first|(refine CallThen.mk _ _ (C.fn (k1)) ?_;cbv)|(refine CallThen.mk _ _ (C.fn (k2)) ?_;cbv)|(refine CallThen.mk _ _ (C.fn (km)) ?_;cbv)|(refine CallThen.mk _ _ (C.fn (ka)) ?_;cbv)|(refine CallThen.mk _ _ (C.fn (kp)) ?_;cbv)|(refine Br.t ?_ ?_;(focus first|assumption|lia);cbv)|(refine Br.f ?_ ?_;(focus first|assumption|lia);cbv)|(refine R0 ?_;cbv))
 all_goals first
  | exact⟨rfl,rfl,trivial⟩
  | exact⟨rfl,rfl,rfl,trivial⟩
  | exact⟨rfl,rfl,rfl,rfl,trivial⟩
  | exact⟨rfl,rfl,rfl,rfl,rfl,trivial⟩
  | exact⟨rfl,rfl,rfl,rfl,rfl,rfl,trivial⟩
  | (exfalso;clear k1 k2 km ka kp;lia)
  | trace_state
  | trace_state
theorem two_pp3F {x y u v g1 g2 e:Int} (hp:gOk x y=true) (hq:gOk u v=true) (hg:gRes x y u v (x+u) (y+v)=(g1,g2,e)) (he:¬ e=0) {d1 d2 e2:Int} (hd:gRes x y u v (x * u-y * v) (x * v+y * u)=(d1,d2,e2)):Fn prog 144 [.int .i64 3,.agg (pointV x y).enc,.agg (pointV u v).enc] [] [.agg (pointV g1 g2).enc,.bool false] []:=by
 have k1:=epoint_p hp;have k2:=epoint_p hq;have km:=gmul_fn x y u v;rw[hd] at km;have ka:=gadd_fn x y u v;rw[hg] at ka;have kp:=point_fn Opq.id g1 g2;clear hp hq hg hd
 refine go (fn:=Proofs.Tryz.f144) (n:=140) (rv:=[ResultVar.cell 6 92,ResultVar.tmp 7]) rfl (by decide) rfl (by decide +kernel) rfl rfl (by simp) fun F L C=>?_
 cbv
 (repeat' first|(refine CallThen.mk _ _ (C.fn (k1)) ?_;cbv)|(refine CallThen.mk _ _ (C.fn (k2)) ?_;cbv)|(refine CallThen.mk _ _ (C.fn (km)) ?_;cbv)|(refine CallThen.mk _ _ (C.fn (ka)) ?_;cbv)|(refine CallThen.mk _ _ (C.fn (kp)) ?_;cbv)|(refine Br.t ?_ ?_;(focus first|assumption|lia);cbv)|(refine Br.f ?_ ?_;(focus first|assumption|lia);cbv)|(refine R0 ?_;cbv))
 all_goals first
  | exact⟨rfl,rfl,trivial⟩
  | exact⟨rfl,rfl,rfl,trivial⟩
  | exact⟨rfl,rfl,rfl,rfl,trivial⟩
  | exact⟨rfl,rfl,rfl,rfl,rfl,trivial⟩
  | exact⟨rfl,rfl,rfl,rfl,rfl,rfl,trivial⟩
  | (exfalso;clear k1 k2 km ka kp;lia)
  | trace_state
  | trace_state
theorem two_pp4T {x y u v g1 g2 e:Int} (hp:gOk x y=true) (hq:gOk u v=true) (hg:gRes x y u v (x * u-y * v) (x * v+y * u)=(g1,g2,e)) (he:e=0):Fn prog 144 [.int .i64 4,.agg (pointV x y).enc,.agg (pointV u v).enc] [] [.agg (pointV g1 g2).enc,.bool true] []:=by
 have k1:=epoint_p hp;have k2:=epoint_p hq;have km:=gmul_fn x y u v;rw[hg] at km;have kp:=point_fn Opq.id g1 g2;clear hp hq hg
 refine go (fn:=Proofs.Tryz.f144) (n:=140) (rv:=[ResultVar.cell 6 92,ResultVar.tmp 7]) rfl (by decide) rfl (by decide +kernel) rfl rfl (by simp) fun F L C=>?_
 cbv
 (repeat' first|(refine CallThen.mk _ _ (C.fn (k1)) ?_;cbv)|(refine CallThen.mk _ _ (C.fn (k2)) ?_;cbv)|(refine CallThen.mk _ _ (C.fn (km)) ?_;cbv)|(refine CallThen.mk _ _ (C.fn (kp)) ?_;cbv)|(refine Br.t ?_ ?_;(focus first|assumption|lia);cbv)|(refine Br.f ?_ ?_;(focus first|assumption|lia);cbv)|(refine R0 ?_;cbv))
 all_goals first
  | exact⟨rfl,rfl,trivial⟩
  | exact⟨rfl,rfl,rfl,trivial⟩
  | exact⟨rfl,rfl,rfl,rfl,trivial⟩
  | exact⟨rfl,rfl,rfl,rfl,rfl,trivial⟩
  | exact⟨rfl,rfl,rfl,rfl,rfl,rfl,trivial⟩
  | (exfalso;clear k1 k2 km kp;lia)
  | trace_state
  | trace_state
theorem two_pp4F {x y u v g1 g2 e:Int} (hp:gOk x y=true) (hq:gOk u v=true) (hg:gRes x y u v (x * u-y * v) (x * v+y * u)=(g1,g2,e)) (he:¬ e=0):Fn prog 144 [.int .i64 4,.agg (pointV x y).enc,.agg (pointV u v).enc] [] [.agg (pointV g1 g2).enc,.bool false] []:=by
 have k1:=epoint_p hp;have k2:=epoint_p hq;have km:=gmul_fn x y u v;rw[hg] at km;have kp:=point_fn Opq.id g1 g2;clear hp hq hg
 refine go (fn:=Proofs.Tryz.f144) (n:=140) (rv:=[ResultVar.cell 6 92,ResultVar.tmp 7]) rfl (by decide) rfl (by decide +kernel) rfl rfl (by simp) fun F L C=>?_
 cbv
 (repeat' first|(refine CallThen.mk _ _ (C.fn (k1)) ?_;cbv)|(refine CallThen.mk _ _ (C.fn (k2)) ?_;cbv)|(refine CallThen.mk _ _ (C.fn (km)) ?_;cbv)|(refine CallThen.mk _ _ (C.fn (kp)) ?_;cbv)|(refine Br.f ?_ ?_;(focus first|assumption|lia);cbv)|(refine R0 ?_;cbv))
 all_goals first
  | exact⟨rfl,rfl,trivial⟩
  | exact⟨rfl,rfl,rfl,trivial⟩
  | exact⟨rfl,rfl,rfl,rfl,trivial⟩
  | exact⟨rfl,rfl,rfl,rfl,rfl,trivial⟩
  | exact⟨rfl,rfl,rfl,rfl,rfl,rfl,trivial⟩
  | (exfalso;clear k1 k2 km kp;lia)
  | trace_state
  | trace_state
theorem okB_false (v:Val):okBv false v=none:=by simp [okBv]
theorem okB_bad {v:Val} (h:¬ v.Ok) (B:Bool):okBv B v=none:=by simp [okBv,h]
theorem gRes_cases (a1 a2 b1 b2 c1 c2:Int):(gOk a1 a2=true∧gOk b1 b2=true∧gOk c1 c2=true∧gRes a1 a2 b1 b2 c1 c2=(c1,c2,0)) ∨
  (∃ e,gRes a1 a2 b1 b2 c1 c2=(0,0,e)∧¬ e=0∧¬ (gOk a1 a2=true∧gOk b1 b2=true∧gOk c1 c2=true)):=by
 unfold gRes
 split
 ·rename_i h
  split
  ·rename_i h2;exact .inl ⟨h.1,h.2,h2,rfl⟩
  ·rename_i h2;exact .inr ⟨3,rfl,by decide,fun q=>h2 q.2.2⟩
 ·rename_i h;exact .inr ⟨1,rfl,by decide,fun q=>h ⟨q.1,q.2.1⟩⟩
theorem two_all {k : Int} (hk : k = 3 ∨ k = 4) {a b : Val} (ha : a.Ok) (hb : b.Ok) : ∃ v B, Fn prog 144 [.int .i64 k, .agg a.enc, .agg b.enc] [] [.agg (Val.enc v), .bool B] [] ∧ okV (twoO k a b) = okBv B v := by
  rcases val_cases ha with ⟨m, rfl, hm⟩ | ⟨x, y, rfl, hp⟩ | ⟨s, rfl, hs⟩
  · rcases val_cases hb with ⟨n, rfl, hn⟩ | ⟨u, v, rfl, hq⟩ | ⟨t, rfl, ht⟩
    · rcases hk with rfl | rfl
      · exact ⟨_, _, two_nn3 hm hn rfl, okV_is (by simp [twoO, numV])⟩
      · have e : twoO 4 (numV m) (numV n) = some (numV (m * n)) := by simp [twoO, numV]
        rw [e]
        by_cases h0 : m = 0
        · subst h0
          exact ⟨_, _, two_nn0 hn rfl, okV_is (by rw [Int.zero_mul])⟩
        · rcases prod_fits hm hn h0 with ⟨h1, h2⟩ | ⟨h1, h2⟩
          · exact ⟨_, _, two_nnT h0 rfl rfl h1, okV_is (by rw [h2])⟩
          · exact ⟨_, _, two_nnF h0 rfl rfl h1, okV_not (okV_bad fun q => h2 (numV_ok.1 q))⟩
    · rcases hk with rfl | rfl
      · exact ⟨_, _, two_np3, okV_not (by simp [twoO, numV, pointV, okV])⟩
      · have e : twoO 4 (numV m) (pointV u v) = if gOk m 0 = true then some (pointV (m * u - 0 * v) (m * v + 0 * u)) else none := by
          by_cases hg : gOk m 0 = true <;> simp [twoO, numV, pointV, asP, hg, mulP]
        rw [e]
        by_cases ho : gOk m 0 = true
        · rw [if_pos ho]
          rcases gRes_cases m 0 u v (m * u - 0 * v) (m * v + 0 * u) with ⟨_, _, h3, hg⟩ | ⟨e, hg, he, hn⟩
          · exact ⟨_, _, two_npT hq ho hg rfl, okV_is rfl⟩
          · exact ⟨_, _, two_npF hq ho hg he, okV_not (okV_bad fun q => hn ⟨ho, hq, pointV_ok.1 q⟩)⟩
        · rw [if_neg ho]
          exact ⟨_, _, two_npG hq (by simpa using ho) rfl rfl, okV_not rfl⟩
    · exact ⟨_, _, two_xt hk rfl ht (.inl rfl) rfl, okV_not (by simp [twoO, numV, textV, okV])⟩
  · rcases val_cases hb with ⟨n, rfl, hn⟩ | ⟨u, v, rfl, hq⟩ | ⟨t, rfl, ht⟩
    · rcases hk with rfl | rfl
      · exact ⟨_, _, two_pn3, okV_not (by simp [twoO, numV, pointV, okV])⟩
      · have e : twoO 4 (pointV x y) (numV n) = if gOk n 0 = true then some (pointV (x * n - y * 0) (x * 0 + y * n)) else none := by
          by_cases hg : gOk n 0 = true <;> simp [twoO, numV, pointV, asP, hg, mulP]
        rw [e]
        by_cases ho : gOk n 0 = true
        · rw [if_pos ho]
          rcases gRes_cases x y n 0 (x * n - y * 0) (x * 0 + y * n) with ⟨_, _, h3, hg⟩ | ⟨e, hg, he, hn⟩
          · exact ⟨_, _, two_pnT hp ho hg rfl, okV_is rfl⟩
          · exact ⟨_, _, two_pnF hp ho hg he, okV_not (okV_bad fun q => hn ⟨hp, ho, pointV_ok.1 q⟩)⟩
        · rw [if_neg ho]
          exact ⟨_, _, two_pnG hp (by simpa using ho) rfl rfl, okV_not rfl⟩
    · rcases hk with rfl | rfl
      · have e : twoO 3 (pointV x y) (pointV u v) = some (pointV (x + u) (y + v)) := by simp [twoO, pointV]
        rw [e]
        rcases gRes_cases x y u v (x + u) (y + v) with ⟨_, _, h3, hg⟩ | ⟨e, hg, he, hn⟩
        · exact ⟨_, _, two_pp3T hp hq hg rfl rfl, okV_is rfl⟩
        · exact ⟨_, _, two_pp3F hp hq hg he rfl, okV_not (okV_bad fun q => hn ⟨hp, hq, pointV_ok.1 q⟩)⟩
      · have e : twoO 4 (pointV x y) (pointV u v) = some (pointV (x * u - y * v) (x * v + y * u)) := by simp [twoO, pointV, asP, mulP]
        rw [e]
        rcases gRes_cases x y u v (x * u - y * v) (x * v + y * u) with ⟨_, _, h3, hg⟩ | ⟨e, hg, he, hn⟩
        · exact ⟨_, _, two_pp4T hp hq hg rfl, okV_is rfl⟩
        · exact ⟨_, _, two_pp4F hp hq hg he, okV_not (okV_bad fun q => hn ⟨hp, hq, pointV_ok.1 q⟩)⟩
    · exact ⟨_, _, two_xt hk rfl ht (.inr rfl) rfl, okV_not (by simp [twoO, pointV, textV, okV])⟩
  · rcases val_cases hb with ⟨n, rfl, hn⟩ | ⟨u, v, rfl, hq⟩ | ⟨t, rfl, ht⟩
    · exact ⟨_, _, two_tx hk rfl hs (.inl rfl) rfl, okV_not (by simp [twoO, numV, textV, okV])⟩
    · exact ⟨_, _, two_tx hk rfl hs (.inr rfl) rfl, okV_not (by simp [twoO, pointV, textV, okV])⟩
    · rcases hk with rfl | rfl
      · have e : twoO 3 (textV s) (textV t) = some (textV (s ++ t)) := by simp [twoO, textV]
        rw [e]
        by_cases h : s.size + t.size ≤ 256
        · exact ⟨_, _, two_tt1 rfl hs ht h, okV_is rfl⟩
        · exact ⟨_, _, two_tt0 rfl hs ht h, okV_not (okV_bad fun q => h (by have := textV_ok.1 q; rwa [ByteArray.size_append] at this))⟩
      · exact ⟨_, _, two_tt4 rfl hs ht, okV_not (by simp [twoO, textV, okV])⟩
/-! ### Calls -/
def bNorm:ByteArray:=⟨#[110,111,114,109]⟩
def bConj:ByteArray:=⟨#[99,111,110,106]⟩
def bTurn:ByteArray:=⟨#[116,117,114,110]⟩
def bLow:ByteArray:=⟨#[108,111,119]⟩
def bHead:ByteArray:=⟨#[104,101,97,100]⟩
theorem call_normT {k n x y:Int} {t:ByteArray} (hv:gOk x y=true) {q:Int} (hq:q=x * x+y * y) (hk:k=3):Fn prog 143 [.str bNorm,.agg (⟨k,n,t,x,y⟩:Val).enc] [] [.agg (numV q).enc,.bool true] []:=by
 have k1:=gnorm_fn x y;rw[if_pos hv,← hq] at k1;have k2:=num_fn Opq.id q;clear hv hq
 refine go (fn:=Proofs.Tryz.f143) (n:=87) (rv:=[ResultVar.cell 4 92,ResultVar.tmp 5]) rfl (by decide) rfl (by decide +kernel) rfl rfl (by simp) fun F L C=>?_
 cbv
 (repeat' first|(refine CallThen.mk _ _ (C.fn (k1)) ?_;cbv)|(refine CallThen.mk _ _ (C.fn (k2)) ?_;cbv)|(refine Br.t ?_ ?_;(focus first|assumption|lia);cbv)|(refine R0 ?_;cbv))
 all_goals first
  | exact⟨rfl,rfl,trivial⟩
  | exact⟨rfl,rfl,rfl,trivial⟩
  | exact⟨rfl,rfl,rfl,rfl,trivial⟩
  | exact⟨rfl,rfl,rfl,rfl,rfl,trivial⟩
  | exact⟨rfl,rfl,rfl,rfl,rfl,rfl,trivial⟩
  | (exfalso;clear k1 k2;lia)
  | trace_state
  | trace_state
theorem call_conjT {k n x y:Int} {t:ByteArray} (hv:gOk x y=true) {q:Int} (hq:q=-y) (hk:k=3):Fn prog 143 [.str bConj,.agg (⟨k,n,t,x,y⟩:Val).enc] [] [.agg (pointV x q).enc,.bool true] []:=by
 have k1:=gmirror_fn hv;rw[← hq] at k1;have k2:=point_fn Opq.id x q;clear hv hq
 refine go (fn:=Proofs.Tryz.f143) (n:=87) (rv:=[ResultVar.cell 4 92,ResultVar.tmp 5]) rfl (by decide) rfl (by decide +kernel) rfl rfl (by simp) fun F L C=>?_
 cbv
 (repeat' first|(refine CallThen.mk _ _ (C.fn (k1)) ?_;cbv)|(refine CallThen.mk _ _ (C.fn (k2)) ?_;cbv)|(refine Br.t ?_ ?_;(focus first|assumption|lia);cbv)|(refine Br.f ?_ ?_;(focus first|assumption|lia);cbv)|(refine R0 ?_;cbv))
 all_goals first
  | exact⟨rfl,rfl,trivial⟩
  | exact⟨rfl,rfl,rfl,trivial⟩
  | exact⟨rfl,rfl,rfl,rfl,trivial⟩
  | exact⟨rfl,rfl,rfl,rfl,rfl,trivial⟩
  | exact⟨rfl,rfl,rfl,rfl,rfl,rfl,trivial⟩
  | (exfalso;clear k1 k2;lia)
  | trace_state
  | trace_state
theorem call_turnT {k n x y:Int} {t:ByteArray} (hv:gOk x y=true) {q:Int} (hq:q=-y) (hk:k=3):Fn prog 143 [.str bTurn,.agg (⟨k,n,t,x,y⟩:Val).enc] [] [.agg (pointV q x).enc,.bool true] []:=by
 have k1:=gturn_fn hv;rw[← hq] at k1;have k2:=point_fn Opq.id q x;clear hv hq
 refine go (fn:=Proofs.Tryz.f143) (n:=87) (rv:=[ResultVar.cell 4 92,ResultVar.tmp 5]) rfl (by decide) rfl (by decide +kernel) rfl rfl (by simp) fun F L C=>?_
 cbv
 (repeat' first|(refine CallThen.mk _ _ (C.fn (k1)) ?_;cbv)|(refine CallThen.mk _ _ (C.fn (k2)) ?_;cbv)|(refine Br.t ?_ ?_;(focus first|assumption|lia);cbv)|(refine Br.f ?_ ?_;(focus first|assumption|lia);cbv)|(refine R0 ?_;cbv))
 all_goals first
  | exact⟨rfl,rfl,trivial⟩
  | exact⟨rfl,rfl,rfl,trivial⟩
  | exact⟨rfl,rfl,rfl,rfl,trivial⟩
  | exact⟨rfl,rfl,rfl,rfl,rfl,trivial⟩
  | exact⟨rfl,rfl,rfl,rfl,rfl,rfl,trivial⟩
  | (exfalso;clear k1 k2;lia)
  | trace_state
  | trace_state
theorem call_normF {k n x y:Int} {t:ByteArray} (hv:gOk x y=true) {q:Int} (hq:q=x * x+y * y) (hk:¬ k=3):Fn prog 143 [.str bNorm,.agg (⟨k,n,t,x,y⟩:Val).enc] [] [.agg (numV q).enc,.bool false] []:=by
 have k1:=gnorm_fn x y;rw[if_pos hv,← hq] at k1;have k2:=num_fn Opq.id q;clear hv hq
 refine go (fn:=Proofs.Tryz.f143) (n:=87) (rv:=[ResultVar.cell 4 92,ResultVar.tmp 5]) rfl (by decide) rfl (by decide +kernel) rfl rfl (by simp) fun F L C=>?_
 cbv
 (repeat' first|(refine CallThen.mk _ _ (C.fn (k1)) ?_;cbv)|(refine CallThen.mk _ _ (C.fn (k2)) ?_;cbv)|(refine Br.t ?_ ?_;(focus first|assumption|lia);cbv)|(refine Br.f ?_ ?_;(focus first|assumption|lia);cbv)|(refine R0 ?_;cbv))
 all_goals first
  | exact⟨rfl,rfl,trivial⟩
  | exact⟨rfl,rfl,rfl,trivial⟩
  | exact⟨rfl,rfl,rfl,rfl,trivial⟩
  | exact⟨rfl,rfl,rfl,rfl,rfl,trivial⟩
  | exact⟨rfl,rfl,rfl,rfl,rfl,rfl,trivial⟩
  | (exfalso;clear k1 k2;lia)
  | trace_state
  | trace_state
theorem call_conjF {k n x y:Int} {t:ByteArray} (hv:gOk x y=true) {q:Int} (hq:q=-y) (hk:¬ k=3):Fn prog 143 [.str bConj,.agg (⟨k,n,t,x,y⟩:Val).enc] [] [.agg (pointV x q).enc,.bool false] []:=by
 have k1:=gmirror_fn hv;rw[← hq] at k1;have k2:=point_fn Opq.id x q;clear hv hq
 refine go (fn:=Proofs.Tryz.f143) (n:=87) (rv:=[ResultVar.cell 4 92,ResultVar.tmp 5]) rfl (by decide) rfl (by decide +kernel) rfl rfl (by simp) fun F L C=>?_
 cbv
 (repeat' first|(refine CallThen.mk _ _ (C.fn (k1)) ?_;cbv)|(refine CallThen.mk _ _ (C.fn (k2)) ?_;cbv)|(refine Br.t ?_ ?_;(focus first|assumption|lia);cbv)|(refine Br.f ?_ ?_;(focus first|assumption|lia);cbv)|(refine R0 ?_;cbv))
 all_goals first
  | exact⟨rfl,rfl,trivial⟩
  | exact⟨rfl,rfl,rfl,trivial⟩
  | exact⟨rfl,rfl,rfl,rfl,trivial⟩
  | exact⟨rfl,rfl,rfl,rfl,rfl,trivial⟩
  | exact⟨rfl,rfl,rfl,rfl,rfl,rfl,trivial⟩
  | (exfalso;clear k1 k2;lia)
  | trace_state
  | trace_state
theorem call_turnF {k n x y:Int} {t:ByteArray} (hv:gOk x y=true) {q:Int} (hq:q=-y) (hk:¬ k=3):Fn prog 143 [.str bTurn,.agg (⟨k,n,t,x,y⟩:Val).enc] [] [.agg (pointV q x).enc,.bool false] []:=by
 have k1:=gturn_fn hv;rw[← hq] at k1;have k2:=point_fn Opq.id q x;clear hv hq
 refine go (fn:=Proofs.Tryz.f143) (n:=87) (rv:=[ResultVar.cell 4 92,ResultVar.tmp 5]) rfl (by decide) rfl (by decide +kernel) rfl rfl (by simp) fun F L C=>?_
 cbv
 (repeat' first|(refine CallThen.mk _ _ (C.fn (k1)) ?_;cbv)|(refine CallThen.mk _ _ (C.fn (k2)) ?_;cbv)|(refine Br.t ?_ ?_;(focus first|assumption|lia);cbv)|(refine Br.f ?_ ?_;(focus first|assumption|lia);cbv)|(refine R0 ?_;cbv))
 all_goals first
  | exact⟨rfl,rfl,trivial⟩
  | exact⟨rfl,rfl,rfl,trivial⟩
  | exact⟨rfl,rfl,rfl,rfl,trivial⟩
  | exact⟨rfl,rfl,rfl,rfl,rfl,trivial⟩
  | exact⟨rfl,rfl,rfl,rfl,rfl,rfl,trivial⟩
  | (exfalso;clear k1 k2;lia)
  | trace_state
  | trace_state
def lowF (s:ByteArray) (i:Nat):ByteArray:=⟨((s.data.toList.take i).map lowC++s.data.toList.drop i).toArray⟩
theorem lowF_zero (s:ByteArray):lowF s 0=s:=by simp [lowF]
theorem lowF_all (s:ByteArray) {i:Nat} (h:s.data.toList.length≤i):lowF s i=lowV s:=by
 rw[lowF,lowV,List.take_of_length_le h,List.drop_of_length_le h,List.append_nil]
theorem lowF_rows (s:ByteArray) (i:Nat):byteRows (lowF s i)=((s.data.toList.take i).map lowC++s.data.toList.drop i).map fun b=>[PV.int .u8 b.toNat]:=by
 simp [byteRows,lowF]
theorem lowF_len (s:ByteArray) (i:Nat):(byteRows (lowF s i)).length=s.data.toList.length:=by
 rw[lowF_rows];simp;omega
theorem lowF_at {s:ByteArray} {i:Nat} {c:UInt8} (h:s.data.toList[i]?=some c):(byteRows (lowF s i))[i]?=some [.int .u8 (c.toNat:Int)]:=by
 have hi:=(List.getElem?_eq_some_iff.1 h).1
 rw[lowF_rows,List.getElem?_map,List.getElem?_append_right (by simp;omega)]
 simp only [List.length_map,List.length_take,Nat.min_eq_left (Nat.le_of_lt hi),Nat.sub_self,List.getElem?_drop,Nat.add_zero,h,Option.map_some]
theorem lowF_succ {s:ByteArray} {i:Nat} {c:UInt8} (h:s.data.toList[i]?=some c):byteRows (lowF s (i+1))=(byteRows (lowF s i)).set i [.int .u8 ((lowC c).toNat:Int)]:=by
 have hi:=(List.getElem?_eq_some_iff.1 h).1
 rw[lowF_rows,lowF_rows]
 apply List.ext_getElem?
 intro j
 rw[List.getElem?_set,List.getElem?_map,List.getElem?_map,List.getElem?_append,List.getElem?_append]
 simp only [List.length_map,List.length_take,Nat.min_eq_left (Nat.le_of_lt hi),Nat.min_eq_left (Nat.succ_le_of_lt hi),List.length_append,List.length_drop,List.getElem?_map,List.getElem?_take,List.getElem?_drop]
 by_cases e:i=j
 ·subst e
  rw[if_pos (by omega),if_pos rfl,if_pos (by omega),if_pos (by omega),h];rfl
 ·rw[if_neg e]
  by_cases hj:j<i
  ·rw[if_pos (by omega),if_pos hj,if_pos (by omega),if_pos hj]
  ·rw[if_neg (by omega),if_neg hj,show i+1+(j-(i+1))=i+(j-i) by omega]
theorem lowC_up {c:UInt8} (h:65≤c.toNat∧c.toNat≤90):((lowC c).toNat:Int)=(c.toNat:Int)+32:=by
 rw[lowC,if_pos h,UInt8.toNat_add]
 have:(32:UInt8).toNat=32:=rfl
 omega
theorem lowC_no {c:UInt8} (h:¬ (65≤c.toNat∧c.toNat≤90)):lowC c=c:=by rw[lowC,if_neg h]
theorem call_headT {k n x y:Int} {t S:ByteArray} (hS:S=headS t) (hk:k=2) (ht:t.size≤1000000):Fn prog 143 [.str bHead,.agg (⟨k,n,t,x,y⟩:Val).enc] [] [.agg (textV S).enc,.bool true] []:=by
  have k1:=text_fn Opq.id S
  have hm:t.size=0∨1≤t.size:=by omega
  have hS1:∀ q:Int,(q=if (t.size:Int)<1 then(t.size:Int) else 1)→S=t.extract 0 q.toNat:=fun q hq=>by
    rw[hS,headS]
    congr 1
    split at hq<;>omega
  clear hS
  refine go (fn:=Proofs.Tryz.f143) (n:=87) (rv:=[ResultVar.cell 4 92,ResultVar.tmp 5]) rfl (by decide) rfl (by decide +kernel) rfl rfl (by simp) fun F L C=>?_
  cbv
  (repeat' first|(refine Nm fun _ _=>?_;cbv)|(refine Br.f ?_ ?_;(focus first|assumption|lia);cbv)|(refine Need.mk ?_ ?_;rotate_left;cbv))
  all_goals try
    (rename_i q1 h1 q2 h2
     refine⟨by decide,?_,?_⟩<;>(clear hS1 k1;rw[h2];split<;>lia))
  all_goals
    rename_i q1 h1 q2 h2 w hw
    obtain rfl:w=S:=by rw[hw];exact(hS1 q2 (by rw[h2,h1])).symm
    clear hS1 hm hw h2 h1
    (repeat' first|(refine CallThen.mk _ _ (C.fn (k1)) ?_;cbv)|(refine Br.t ?_ ?_;(focus first|assumption|lia);cbv)|(refine R0 ?_;cbv))
    all_goals first
      | exact⟨rfl,rfl,trivial⟩
      | (exfalso;clear k1;lia)
      | trace_state
theorem call_headF {k n x y:Int} {t S:ByteArray} (hS:S=headS t) (hk:¬ k=2) (ht:t.size≤1000000):Fn prog 143 [.str bHead,.agg (⟨k,n,t,x,y⟩:Val).enc] [] [.agg (textV S).enc,.bool false] []:=by
  have k1:=text_fn Opq.id S
  have hm:t.size=0∨1≤t.size:=by omega
  have hS1:∀ q:Int,(q=if (t.size:Int)<1 then(t.size:Int) else 1)→S=t.extract 0 q.toNat:=fun q hq=>by
    rw[hS,headS]
    congr 1
    split at hq<;>omega
  clear hS
  refine go (fn:=Proofs.Tryz.f143) (n:=87) (rv:=[ResultVar.cell 4 92,ResultVar.tmp 5]) rfl (by decide) rfl (by decide +kernel) rfl rfl (by simp) fun F L C=>?_
  cbv
  (repeat' first|(refine Nm fun _ _=>?_;cbv)|(refine Br.f ?_ ?_;(focus first|assumption|lia);cbv)|(refine Need.mk ?_ ?_;rotate_left;cbv))
  all_goals try
    (rename_i q1 h1 q2 h2
     refine⟨by decide,?_,?_⟩<;>(clear hS1 k1;rw[h2];split<;>lia))
  all_goals
    rename_i q1 h1 q2 h2 w hw
    obtain rfl:w=S:=by rw[hw];exact(hS1 q2 (by rw[h2,h1])).symm
    clear hS1 hm hw h2 h1
    (repeat' first|(refine CallThen.mk _ _ (C.fn (k1)) ?_;cbv)|(refine Br.f ?_ ?_;(focus first|assumption|lia);cbv)|(refine R0 ?_;cbv))
    all_goals first
      | exact⟨rfl,rfl,trivial⟩
      | (exfalso;clear k1;lia)
      | trace_state
theorem u8_sub {c:Int} (h:65≤c∧c≤90):IntKind.u8.wrap (c-65)=c-65:=by unfold IntKind.wrap;simp [IntKind.bits,IntKind.signed];omega
theorem u8_add {c:Int} (h:0≤c∧c≤25):IntKind.u8.wrap (c+97)=c+97:=by unfold IntKind.wrap;simp [IntKind.bits,IntKind.signed];omega
theorem set_self {R:List (List PV)} {i:Nat} {x:List PV} (h:R[i]?=some x):R.set i x=R:=by
 obtain⟨hk,rfl⟩:=List.getElem?_eq_some_iff.1 h
 exact List.set_getElem_self _
theorem call_lowT {k n x y:Int} {t S:ByteArray} (hS:S=lowV t) (hk:k=2) (ht:t.size≤1000000):Fn prog 143 [.str bLow,.agg (⟨k,n,t,x,y⟩:Val).enc] [] [.agg (textV S).enc,.bool true] []:=by
 have k1:=text_fn Opq.id S
 obtain⟨N,hN⟩:∃ N:Nat,N=t.data.toList.length:=⟨_,rfl⟩
 have hNs:t.size=N:=by rw[hN,size_list]
 obtain⟨R,hR⟩:∃ R:Nat→List (List PV),R=fun i=>byteRows (lowF t i):=⟨_,rfl⟩
 have hlen:∀ i,(R i).length=N:=fun i=>by rw[hR,hN];exact lowF_len t i
 obtain⟨V,hV⟩:∃ V:UInt8→Int,V=fun c=>(c.toNat:Int):=⟨_,rfl⟩
 have hVb:∀ c,0≤V c∧V c<256:=fun c=>by rw[hV];have:=c.toNat_lt;exact⟨by simp only;omega,by simp only;omega⟩
 have hVu:∀ c,65≤V c∧V c≤90→V (lowC c)=V c+32:=fun c h=>by rw[hV] at h ⊢;exact lowC_up (by simp only at h;omega)
 have hVn:∀ c,¬ (65≤V c∧V c≤90)→V (lowC c)=V c:=fun c h=>by rw[hV] at h ⊢;rw[lowC_no (by simp only at h;omega)]
 have hat:∀ (i:Nat) c,t.data.toList[i]?=some c→(R i)[i]?=some [.int .u8 (V c)]:=fun i c h=>by rw[hR,hV];exact lowF_at h
 have hsuc:∀ (i:Nat) c,t.data.toList[i]?=some c→R (i+1)=(R i).set i [.int .u8 (V (lowC c))]:=fun i c h=>by rw[hR,hV];exact lowF_succ h
 have hend:∀ i,N≤i→R i=byteRows S:=fun i h=>by rw[hR,hS];show byteRows (lowF t i)=_;rw[lowF_all t (by omega)]
 obtain⟨z,hz⟩:∃ z:Nat,z=0:=⟨_,rfl⟩
 have h0:R z=byteRows t:=by rw[hR,hz];show byteRows (lowF t 0)=_;rw[lowF_zero]
 have hlz:=hlen z
 clear hR hS hV
 refine go (fn:=Proofs.Tryz.f143) (n:=87) (rv:=[ResultVar.cell 4 92,ResultVar.tmp 5]) rfl (by decide) rfl (by decide +kernel) rfl rfl (by simp) fun F L C=>?_
 cbv
 (repeat' first|(refine Named.atG (R z) h0 ?_;cbv)|(refine Nm fun _ _=>?_;cbv)|(refine Br.t ?_ ?_;(focus first|assumption|lia);cbv)|(refine Br.f ?_ ?_;(focus first|assumption|lia);cbv)|(refine Need.mk ?_ ?_;rotate_left;cbv))
 all_goals try
  (clear hend hsuc hat hlen k1 h0 hVb hVu hVn;omega)
 rename_i Z hZ
 have hZ2:Z=(N:Int):=by rw[hZ,hlz]
 clear hZ h0 hlz
 refine LoopThen.mk (C.loopAt (ι:=Nat) [(9,10),(54,71)] (fun i=>[(53,.int .i64 N),(54,.int .i64 i)]) (fun i=>[(320,.box [.int .i64 k,.int .i64 n,.str t,.int .i64 x,.int .i64 y]),(384,.box [.int .i64 0,.int .i64 0,.str ByteArray.empty,.int .i64 0,.int .i64 0]),(3392,.arr 1 none 1 (R i))])
  (fun i=>i≤N) (fun i=>N-i) (by decide +kernel) (Start.mk z [] [] (show z≤N by omega) ?_) ?_)
 ·clear hend hsuc hat hlen k1
  cbv
  (repeat' apply And.intro)<;>first|exact True.intro|exact WkR.refl _|rfl|exact hZ2.symm|(clear hVb hVu hVn hZ2;lia)|trace_state
 intro i g
 cbv
 have g1:i≤N:=g
 clear g hZ2
 have hl:=hlen i
 by_cases hi:i<N
 ·obtain⟨c,hc⟩:∃ c,t.data.toList[i]?=some c:=⟨t.data.toList[i]'(by omega),List.getElem?_eq_getElem (by omega)⟩
  have ha:=hat i c hc
  have hs:=hsuc i c hc
  have hcb:=hVb c
  have hcu:=hVu c
  have hcn:=hVn c
  obtain⟨C0,hC0⟩:∃ C0,C0=V c:=⟨_,rfl⟩
  rw[← hC0] at hcb hcu hcn ha
  clear hat hsuc hend hlen k1 hVb hVu hVn hC0 hc
  by_cases hu:65≤C0∧C0≤90
  ·rw[hcu hu] at hs
   obtain⟨D,hD⟩:∃ D,D=C0-65:=⟨_,rfl⟩
   obtain⟨E,hE⟩:∃ E,E=C0+32:=⟨_,rfl⟩
   have hD2:D=IntKind.u8.wrap (C0-65):=by rw[u8_sub hu];exact hD
   have hE2:E=IntKind.u8.wrap (D+97):=by rw[u8_add (by omega)];omega
   rw[← hE] at hs
   clear hcu hcn
   (repeat' first|(refine Named.atG i rfl ?_;cbv)|(refine Named.atG D hD2 ?_;cbv)|(refine Named.atG E hE2 ?_;cbv)|(refine Na ?_ fun _ _=>?_;(focus lia);cbv)|(refine Ex.mk [.int .u8 C0] ⟨by clear ha hs hD2 hE2;lia,ha⟩ ?_;cbv)|(refine Back.up [] [] ?_ ?_ fun _ _=>?_;rotate_left 2;cbv;refine And.intro ?_ ?_)|(refine Nl fun _ _ hq=>?_;(try simp only [lenS] at hq);cbv)|(refine Br.t ?_ ?_;(focus first|assumption|lia);cbv)|(refine Need.mk ?_ ?_;rotate_left;cbv))
   all_goals(repeat' apply And.intro)
   all_goals try first
    | exact True.intro
    | exact WkR.refl _
    | rfl
    | (clear ha hs hD2 hE2;lia)
   all_goals
    rename_i q hq1 _ _ k' hk'
    rw[hk',hq1]
    exact WkR.of_eq hs
  ·rw[hcn hu] at hs
   have hse:R (i+1)=R i:=by rw[hs];exact set_self ha
   clear hs hcu hcn
   (repeat' first|(refine Named.atG i rfl ?_;cbv)|(refine Na ?_ fun _ _=>?_;(focus lia);cbv)|(refine Ex.mk [.int .u8 C0] ⟨by clear ha hse;lia,ha⟩ ?_;cbv)|(refine Back.up [] [] ?_ ?_ fun _ _=>?_;rotate_left 2;cbv;refine And.intro ?_ ?_)|(refine Br.t ?_ ?_;(focus first|assumption|lia);cbv)|(refine Br.f ?_ ?_;(focus first|assumption|lia);cbv)|(refine Br.mk (fun _=>?_) (fun _=>?_)<;>cbv)|(refine Need.mk ?_ ?_;rotate_left;cbv))
   all_goals(repeat' apply And.intro)
   all_goals try first
    | exact True.intro
    | exact WkR.refl _
    | rfl
    | (clear ha hse;lia)
   all_goals first
    | (rename_i k' hk';exact WkR.of_eq (by rw[hk',hse]))
    | trace_state
 ·have he:=hend i (by omega)
  clear hat hsuc hend hlen hVb hVu hVn
  (repeat' first|(refine Ex.mk S he ?_;cbv)|(refine CallThen.mk _ _ (C.fn (k1)) ?_;cbv)|(refine Br.t ?_ ?_;(focus first|assumption|lia);cbv)|(refine Br.f ?_ ?_;(focus first|assumption|lia);cbv)|(refine R0 ?_;cbv))
  all_goals first
   | exact⟨rfl,rfl,trivial⟩
   | exact⟨rfl,trivial⟩
   | (exfalso;clear he k1;lia)
   | trace_state
theorem call_lowF {k n x y:Int} {t S:ByteArray} (hS:S=lowV t) (hk:¬ k=2) (ht:t.size≤1000000):Fn prog 143 [.str bLow,.agg (⟨k,n,t,x,y⟩:Val).enc] [] [.agg (textV S).enc,.bool false] []:=by
 have k1:=text_fn Opq.id S
 obtain⟨N,hN⟩:∃ N:Nat,N=t.data.toList.length:=⟨_,rfl⟩
 have hNs:t.size=N:=by rw[hN,size_list]
 obtain⟨R,hR⟩:∃ R:Nat→List (List PV),R=fun i=>byteRows (lowF t i):=⟨_,rfl⟩
 have hlen:∀ i,(R i).length=N:=fun i=>by rw[hR,hN];exact lowF_len t i
 obtain⟨V,hV⟩:∃ V:UInt8→Int,V=fun c=>(c.toNat:Int):=⟨_,rfl⟩
 have hVb:∀ c,0≤V c∧V c<256:=fun c=>by rw[hV];have:=c.toNat_lt;exact⟨by simp only;omega,by simp only;omega⟩
 have hVu:∀ c,65≤V c∧V c≤90→V (lowC c)=V c+32:=fun c h=>by rw[hV] at h ⊢;exact lowC_up (by simp only at h;omega)
 have hVn:∀ c,¬ (65≤V c∧V c≤90)→V (lowC c)=V c:=fun c h=>by rw[hV] at h ⊢;rw[lowC_no (by simp only at h;omega)]
 have hat:∀ (i:Nat) c,t.data.toList[i]?=some c→(R i)[i]?=some [.int .u8 (V c)]:=fun i c h=>by rw[hR,hV];exact lowF_at h
 have hsuc:∀ (i:Nat) c,t.data.toList[i]?=some c→R (i+1)=(R i).set i [.int .u8 (V (lowC c))]:=fun i c h=>by rw[hR,hV];exact lowF_succ h
 have hend:∀ i,N≤i→R i=byteRows S:=fun i h=>by rw[hR,hS];show byteRows (lowF t i)=_;rw[lowF_all t (by omega)]
 obtain⟨z,hz⟩:∃ z:Nat,z=0:=⟨_,rfl⟩
 have h0:R z=byteRows t:=by rw[hR,hz];show byteRows (lowF t 0)=_;rw[lowF_zero]
 have hlz:=hlen z
 clear hR hS hV
 refine go (fn:=Proofs.Tryz.f143) (n:=87) (rv:=[ResultVar.cell 4 92,ResultVar.tmp 5]) rfl (by decide) rfl (by decide +kernel) rfl rfl (by simp) fun F L C=>?_
 cbv
 (repeat' first|(refine Named.atG (R z) h0 ?_;cbv)|(refine Nm fun _ _=>?_;cbv)|(refine Br.t ?_ ?_;(focus first|assumption|lia);cbv)|(refine Br.f ?_ ?_;(focus first|assumption|lia);cbv)|(refine Need.mk ?_ ?_;rotate_left;cbv))
 all_goals try
  (clear hend hsuc hat hlen k1 h0 hVb hVu hVn;omega)
 rename_i Z hZ
 have hZ2:Z=(N:Int):=by rw[hZ,hlz]
 clear hZ h0 hlz
 refine LoopThen.mk (C.loopAt (ι:=Nat) [(9,10),(54,71)] (fun i=>[(53,.int .i64 N),(54,.int .i64 i)]) (fun i=>[(320,.box [.int .i64 k,.int .i64 n,.str t,.int .i64 x,.int .i64 y]),(384,.box [.int .i64 0,.int .i64 0,.str ByteArray.empty,.int .i64 0,.int .i64 0]),(3392,.arr 1 none 1 (R i))])
  (fun i=>i≤N) (fun i=>N-i) (by decide +kernel) (Start.mk z [] [] (show z≤N by omega) ?_) ?_)
 ·clear hend hsuc hat hlen k1
  cbv
  (repeat' apply And.intro)<;>first|exact True.intro|exact WkR.refl _|rfl|exact hZ2.symm|(clear hVb hVu hVn hZ2;lia)|trace_state
 intro i g
 cbv
 have g1:i≤N:=g
 clear g hZ2
 have hl:=hlen i
 by_cases hi:i<N
 ·obtain⟨c,hc⟩:∃ c,t.data.toList[i]?=some c:=⟨t.data.toList[i]'(by omega),List.getElem?_eq_getElem (by omega)⟩
  have ha:=hat i c hc
  have hs:=hsuc i c hc
  have hcb:=hVb c
  have hcu:=hVu c
  have hcn:=hVn c
  obtain⟨C0,hC0⟩:∃ C0,C0=V c:=⟨_,rfl⟩
  rw[← hC0] at hcb hcu hcn ha
  clear hat hsuc hend hlen k1 hVb hVu hVn hC0 hc
  by_cases hu:65≤C0∧C0≤90
  ·rw[hcu hu] at hs
   obtain⟨D,hD⟩:∃ D,D=C0-65:=⟨_,rfl⟩
   obtain⟨E,hE⟩:∃ E,E=C0+32:=⟨_,rfl⟩
   have hD2:D=IntKind.u8.wrap (C0-65):=by rw[u8_sub hu];exact hD
   have hE2:E=IntKind.u8.wrap (D+97):=by rw[u8_add (by omega)];omega
   rw[← hE] at hs
   clear hcu hcn
   (repeat' first|(refine Named.atG i rfl ?_;cbv)|(refine Named.atG D hD2 ?_;cbv)|(refine Named.atG E hE2 ?_;cbv)|(refine Na ?_ fun _ _=>?_;(focus lia);cbv)|(refine Ex.mk [.int .u8 C0] ⟨by clear ha hs hD2 hE2;lia,ha⟩ ?_;cbv)|(refine Back.up [] [] ?_ ?_ fun _ _=>?_;rotate_left 2;cbv;refine And.intro ?_ ?_)|(refine Nl fun _ _ hq=>?_;(try simp only [lenS] at hq);cbv)|(refine Br.t ?_ ?_;(focus first|assumption|lia);cbv)|(refine Need.mk ?_ ?_;rotate_left;cbv))
   all_goals(repeat' apply And.intro)
   all_goals try first
    | exact True.intro
    | exact WkR.refl _
    | rfl
    | (clear ha hs hD2 hE2;lia)
   all_goals
    rename_i q hq1 _ _ k' hk'
    rw[hk',hq1]
    exact WkR.of_eq hs
  ·rw[hcn hu] at hs
   have hse:R (i+1)=R i:=by rw[hs];exact set_self ha
   clear hs hcu hcn
   (repeat' first|(refine Named.atG i rfl ?_;cbv)|(refine Na ?_ fun _ _=>?_;(focus lia);cbv)|(refine Ex.mk [.int .u8 C0] ⟨by clear ha hse;lia,ha⟩ ?_;cbv)|(refine Back.up [] [] ?_ ?_ fun _ _=>?_;rotate_left 2;cbv;refine And.intro ?_ ?_)|(refine Br.t ?_ ?_;(focus first|assumption|lia);cbv)|(refine Br.f ?_ ?_;(focus first|assumption|lia);cbv)|(refine Br.mk (fun _=>?_) (fun _=>?_)<;>cbv)|(refine Need.mk ?_ ?_;rotate_left;cbv))
   all_goals(repeat' apply And.intro)
   all_goals try first
    | exact True.intro
    | exact WkR.refl _
    | rfl
    | (clear ha hse;lia)
   all_goals first
    | (rename_i k' hk';exact WkR.of_eq (by rw[hk',hse]))
    | trace_state
 ·have he:=hend i (by omega)
  clear hat hsuc hend hlen hVb hVu hVn
  (repeat' first|(refine Ex.mk S he ?_;cbv)|(refine CallThen.mk _ _ (C.fn (k1)) ?_;cbv)|(refine Br.f ?_ ?_;(focus first|assumption|lia);cbv)|(refine R0 ?_;cbv))
  all_goals first
   | exact⟨rfl,rfl,trivial⟩
   | exact⟨rfl,trivial⟩
   | (exfalso;clear he k1;lia)
   | trace_state
end Go.Sym
