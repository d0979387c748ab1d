/- Configurations: what is taken out of a list. -/
import Derived.Test.YtbneclkckmdkgaaGreatDoorK25
set_option linter.all false
set_option linter.unusedVariables false
set_option linter.unusedSimpArgs false
namespace Go.Sym
open Go Go.Proofs.Tryz
set_option maxRecDepth 100000
set_option maxHeartbeats 2000000 in
theorem deleteI_fn (O:Opq) (d:List Int) (i j:Int) (hj:j=i+1) (hd:d.length≤1099511627) (h0:0≤i) (h1:i<d.length):Fn prog 33 [.ref 0,.int .i64 i,.int .i64 j] [.arr 0 none 1 (O.o NumsE d)]
  [.sl false 0 false 1 (O.o NumsE (O.o List.eraseIdx d i.toNat))] [.dead]:=by
 have hlen:(O.o NumsE d).length=d.length:=NumsE.len O d
 refine .inl (Fn.capAny fun c hc=>?_)
 refine goB (fn:=Proofs.Tryz.f33) (n:=30) (rv:=[ResultVar.tmp 6]) rfl (by decide) rfl (by decide +kernel) rfl rfl (by simp) fun F L C=>?_
 cbv
 (repeat' first|(refine Na ?_ fun _ _=>?_;(focus lia);cbv)|(refine RetThen.mk [] [1792] ?_;cbv)|(refine Nl fun _ _ hq=>?_;(try simp only [lenS] at hq);cbv)|(refine Nm fun _ _=>?_;cbv)|(refine Br.t ?_ ?_;(focus first|assumption|lia);cbv)|(refine Br.f ?_ ?_;(focus first|assumption|lia);cbv)|(refine Br.mk (fun _=>?_) (fun _=>?_)<;>cbv)|(refine Need.mk ?_ ?_;rotate_left;cbv)|(refine R0 ?_;cbv))
 all_goals try first
  | lia
  | (dsimp only;lia)
 all_goals
  refine⟨.of_eq ?_,trivial⟩
  subst_vars
  have e:∀ n,NumsE (d.eraseIdx n)=(NumsE d).take n++(NumsE d).drop (n+1):=fun n=>by
   simp only [NumsE,List.eraseIdx_eq_take_drop_succ,List.map_append,List.map_take,List.map_drop]
  simp only [O.h] at hlen ⊢
  refine(e i.toNat).trans ?_
  rw[show(i+1).toNat=i.toNat+1 by omega,show i.toNat-Int.toNat 0=i.toNat by simp,List.take_of_length_le (l:=List.drop (i.toNat+1) (NumsE d)) (by rw[List.length_drop];exact Nat.le_refl _)]
set_option maxHeartbeats 2000000 in
theorem deleteCh_fn (O:Opq) (d:List Chn) (i j:Int) (hj:j=i+1) (hd:d.length≤1099511627) (h0:0≤i) (h1:i<d.length):Fn prog 17 [.ref 0,.int .i64 i,.int .i64 j] [.arr 0 none 5 (O.o (Chns.enc O) d)]
  [.sl false 0 false 5 (O.o (Chns.enc O) (O.o List.eraseIdx d i.toNat))] [.dead]:=by
 have hlen:(O.o (Chns.enc O) d).length=d.length:=Chns.len O d
 refine .inl (Fn.capAny fun c hc=>?_)
 refine goB (fn:=Proofs.Tryz.f17) (n:=30) (rv:=[ResultVar.tmp 6]) rfl (by decide) rfl (by decide +kernel) rfl rfl (by simp) fun F L C=>?_
 cbv
 (repeat' first|(refine Na ?_ fun _ _=>?_;(focus lia);cbv)|(refine RetThen.mk [] [1792] ?_;cbv)|(refine Nl fun _ _ hq=>?_;(try simp only [lenS] at hq);cbv)|(refine Nm fun _ _=>?_;cbv)|(refine Br.t ?_ ?_;(focus first|assumption|lia);cbv)|(refine Br.f ?_ ?_;(focus first|assumption|lia);cbv)|(refine Br.mk (fun _=>?_) (fun _=>?_)<;>cbv)|(refine Need.mk ?_ ?_;rotate_left;cbv)|(refine R0 ?_;cbv))
 all_goals try first
  | lia
  | (dsimp only;lia)
 all_goals
  refine⟨.of_eq ?_,trivial⟩
  subst_vars
  have e:∀ n,(Chns.enc O) (d.eraseIdx n)=((Chns.enc O) d).take n++((Chns.enc O) d).drop (n+1):=fun n=>by
   simp only [Chns.enc,List.eraseIdx_eq_take_drop_succ,List.map_append,List.map_take,List.map_drop]
  simp only [O.h] at hlen ⊢
  refine(e i.toNat).trans ?_
  rw[show(i+1).toNat=i.toNat+1 by omega,show i.toNat-Int.toNat 0=i.toNat by simp,List.take_of_length_le (l:=List.drop (i.toNat+1) ((Chns.enc O) d)) (by rw[List.length_drop];exact Nat.le_refl _)]
theorem cloneIR_fn (O:Opq) (d:List Int) (hd:d.length≤1099511627):Fn prog 29 [.sl false 0 false 1 (O.o NumsE d)] [] [.ref 0] [.arr 0 none 1 (O.o NumsE d)]:=by
 have hlen:(O.o NumsE d).length=d.length:=NumsE.len O d
 refine .inl (Fn.nilOr (pre:=[]) (post:=[]) (fun h0=>?_) ?_)
 ·refine goB (fn:=Proofs.Tryz.f29) (n:=7) (rv:=[ResultVar.tmp 2]) rfl (by decide) rfl (by decide +kernel) rfl rfl (by simp) fun F L C=>?_
  cbv
  (repeat' first|(refine Na ?_ fun _ _=>?_;(focus lia);cbv)|(refine RetThen.mk [(0,.nil 1)] [] ?_;cbv)|(refine Nl fun _ _ hq=>?_;(try simp only [lenS] at hq);cbv)|(refine Nm fun _ _=>?_;cbv)|(refine Br.t ?_ ?_;(focus first|assumption|lia);cbv)|(refine Br.f ?_ ?_;(focus first|assumption|lia);cbv)|(refine Br.mk (fun _=>?_) (fun _=>?_)<;>cbv)|(refine Need.mk ?_ ?_;rotate_left;cbv)|(refine R0 ?_;cbv))
  all_goals exact⟨h0,trivial⟩
 ·refine goB (fn:=Proofs.Tryz.f29) (n:=7) (rv:=[ResultVar.tmp 2]) rfl (by decide) rfl (by decide +kernel) rfl rfl (by simp) fun F L C=>?_
  cbv
  (repeat' first|(refine Na ?_ fun _ _=>?_;(focus lia);cbv)|(refine RetThen.mk [(0,.loc 576)] [] ?_;cbv)|(refine Nl fun _ _ hq=>?_;(try simp only [lenS] at hq);cbv)|(refine Nm fun _ _=>?_;cbv)|(refine Br.t ?_ ?_;(focus first|assumption|lia);cbv)|(refine Br.f ?_ ?_;(focus first|assumption|lia);cbv)|(refine Br.mk (fun _=>?_) (fun _=>?_)<;>cbv)|(refine Need.mk ?_ ?_;rotate_left;cbv)|(refine R0 ?_;cbv))
  ·rename_i r hr
   subst hr
   exact⟨WkR.of_eq rfl,trivial⟩
  ·have:([]:List (List PV)).length=0:=rfl
   lia
theorem ownX_fn (O:Opq) (rev ever:Int) (chains:List Chn) (c1:chains.length≤1000000) (c2:∀ x∈chains,x.mem.length≤1000000) {i:Nat} {X:Chn} (hX:chains[i]?=some X) :
  Fn prog 13 [.agg [.int .i64 rev,.int .i64 ever,.sl false 0 false 5 (O.o (Chns.enc O) chains)]] [] [.agg [.int .i64 rev,.int .i64 ever,.ref 0]]
   [.arrx 0 5 (O.o (Chns.enc O) chains) i [.int .i64 X.id,.str X.dfn,.int .i64 X.epoch,.ref 1,.int .i64 X.joiner],.arr 0 none 1 (O.o NumsE X.mem)]:=by
 have hlen:=Chns.len O chains
 have hcl:=cloneCh_fn O chains (by omega)
 have hclX:Fn prog 28 [.sl false 0 false 5 (O.o (Chns.enc O) chains)] [] [.ref 0] [.arr 0 none 5 (O.o (Chns.enc O) chains)]:=hcl
 obtain⟨N,hN⟩:∃ N:Nat,N=chains.length:=⟨_,rfl⟩
 obtain⟨z,hz⟩:∃ z:Nat×Bool,z=(0,true):=⟨_,rfl⟩
 have hiN:i<N:=by rw[hN];exact(List.getElem?_eq_some_iff.1 hX).1
 have hRX:(O.o (Chns.enc O) chains)[i]?=some (Chn.enc O X):=by simp only [O.h];rw[Chns.enc,List.getElem?_map,hX];rfl
 have hRX':=hRX
 cbv at hRX'
 refine go (fn:=Proofs.Tryz.f13) (n:=26) (rv:=[ResultVar.cell 2 25]) rfl (by decide) rfl (by decide +kernel) rfl rfl (by simp) fun F L C=>?_
 cbv
 (repeat' first|(refine Na ?_ fun _ _=>?_;(focus lia);cbv)|(refine CallThen.mk _ _ (C.fn (hcl)) ?_;cbv)|(refine Nl fun _ _ hq=>?_;(try simp only [lenS] at hq);cbv)|(refine Nm fun _ _=>?_;cbv)|(refine Br.t ?_ ?_;(focus first|assumption|lia);cbv)|(refine Br.f ?_ ?_;(focus first|assumption|lia);cbv)|(refine Br.mk (fun _=>?_) (fun _=>?_)<;>cbv)|(refine Need.mk ?_ ?_;rotate_left;cbv)|(refine R0 ?_;cbv))
 refine LoopThen.mk (C.loopAt (ι:=Nat×Bool) [(3,4),(12,25)] (fun k=>[(12,.int .i64 k.1),(4,.top)]) (fun k=>match k.2 with
   | true=>[(192,.box [.int .i64 rev,.int .i64 ever,.ref 576]),(256,.box [.int .i64 0,.int .i64 0,.nils]),(576,.arrx 0 5 (O.o (Chns.enc O) chains) i (Chn.enc O X))]
   | false=>[(192,.box [.int .i64 rev,.int .i64 ever,.ref 576]),(256,.box [.int .i64 0,.int .i64 0,.nils]),(576,.arrx 0 5 (O.o (Chns.enc O) chains) i [.int .i64 X.id,.str X.dfn,.int .i64 X.epoch,.ref 50,.int .i64 X.joiner]),(50,.arr 0 none 1 (O.o NumsE X.mem))])
  (fun k=>k.1≤N∧(k.2=true ↔ k.1≤i)) (fun k=>N-k.1) (by decide +kernel) (Start.mk (0,true) [] [] ⟨Nat.zero_le _,by simp⟩ ?_) ?_)
 ·cbv
  (repeat' apply And.intro)<;>first|exact True.intro|exact WkR.refl _|rfl|exact hRX'|(clear hcl c2 hRX hRX' hclX;lia)|trace_state
 intro k g
 obtain⟨k,b⟩:=k
 have g1:k≤N:=g.1
 have g2:b=true ↔ k≤i:=g.2
 clear g hcl hclX
 by_cases hk:k<chains.length
 ·obtain⟨x,hx⟩:∃ x,chains[k]?=some x:=⟨chains[k],by simp [hk]⟩
  have hse:=chns_set O hx
  have ki:=cloneI_fn O x.mem (by have:=c2 x (List.mem_of_getElem? hx);omega)
  have kr:=cloneIR_fn O x.mem (by have:=c2 x (List.mem_of_getElem? hx);omega)
  clear c2
  by_cases hki:k=i
  ·have hb:b=true:=g2.2 (by omega)
   subst hb
   have hxX:x=X:=by rw[hki,hX] at hx;exact(Option.some.inj hx).symm
   subst hxX
   clear hse ki
   obtain⟨id,dfn,ep,mem,jo⟩:=x
   cbv
   (repeat' first|(refine Na ?_ fun _ _=>?_;(focus lia);cbv)|(refine Ex.chn O hx ?_ ?_;(focus lia);cbv)|(refine CallThen.mk _ _ (C.fn (kr)) ?_;cbv)|(refine Back.of (i:=(k+1,false)) [(50,.loc 1536)] [] ?_ ?_;(focus cbv))|(refine Nl fun _ _ hq=>?_;(try simp only [lenS] at hq);cbv)|(refine Nm fun _ _=>?_;cbv)|(refine Br.t ?_ ?_;(focus first|assumption|lia);cbv)|(refine Br.f ?_ ?_;(focus first|assumption|lia);cbv)|(refine Br.mk (fun _=>?_) (fun _=>?_)<;>cbv)|(refine Need.mk ?_ ?_;rotate_left;cbv)|(refine R0 ?_;cbv))
   all_goals try first
    | (clear kr hx hX hRX hRX';lia)
    | (refine⟨.refl _,.refl _,.refl _,.refl _,?_,trivial⟩;clear kr hx hX hRX hRX';lia)
    | (refine⟨⟨?_,?_⟩,?_⟩;(show k+1≤N;omega);(constructor;(intro h;cases h);(intro h;have h:k+1≤i:=h;omega));(show N-(k+1)<N-k;omega))
    | trace_state
  ·cases b
   ·obtain⟨id,dfn,ep,mem,jo⟩:=x
    clear kr
    cbv
    (repeat' first|(refine Br.f ?_ ?_;(focus lia);cbv)|(refine Na ?_ fun _ _=>?_;(focus lia);cbv)|(refine Ex.chn O hx ?_ ?_;(focus lia);cbv)|(refine CallThen.mk _ _ (C.fn (ki)) ?_;cbv)|(refine Back.of (i:=(k+1,false)) [] [] ?_ ?_;(focus cbv))|(refine Nl fun _ _ hq=>?_;(try simp only [lenS] at hq);cbv)|(refine Nm fun _ _=>?_;cbv)|(refine Br.t ?_ ?_;(focus first|assumption|lia);cbv)|(refine Br.f ?_ ?_;(focus first|assumption|lia);cbv)|(refine Br.mk (fun _=>?_) (fun _=>?_)<;>cbv)|(refine Need.mk ?_ ?_;rotate_left;cbv)|(refine R0 ?_;cbv))
    all_goals try first
     | (clear ki hse hx hX hRX hRX';lia)
     | (refine⟨?_,.refl _,.refl _,.refl _,?_,trivial⟩;(rename_i i1 ei1 i2 ei2 R eR n1 en1;exact WkR.of_eq (by rw[eR,show i2=k from ei2];exact hse.symm));clear ki hse hx hX hRX hRX';lia)
     | (refine⟨?_,.refl _,.refl _,?_,trivial⟩;(rename_i i1 ei1 i2 ei2 R eR n1 en1;exact WkR.of_eq (by rw[eR,show i2=k from ei2];exact hse.symm));clear ki hse hx hX hRX hRX';lia)
     | (refine⟨⟨?_,?_⟩,?_⟩;(show k+1≤N;omega);(constructor;(intro h;cases h);(intro h;have h:k+1≤i:=h;have:=g2.2 (by omega);cases this));(show N-(k+1)<N-k;omega))
     | trace_state
   ·obtain⟨id,dfn,ep,mem,jo⟩:=x
    clear kr
    cbv
    (repeat' first|(refine Br.f ?_ ?_;(focus lia);cbv)|(refine Na ?_ fun _ _=>?_;(focus lia);cbv)|(refine Ex.chn O hx ?_ ?_;(focus lia);cbv)|(refine CallThen.mk _ _ (C.fn (ki)) ?_;cbv)|(refine Back.of (i:=(k+1,true)) [] [] ?_ ?_;(focus cbv))|(refine Nl fun _ _ hq=>?_;(try simp only [lenS] at hq);cbv)|(refine Nm fun _ _=>?_;cbv)|(refine Br.t ?_ ?_;(focus first|assumption|lia);cbv)|(refine Br.f ?_ ?_;(focus first|assumption|lia);cbv)|(refine Br.mk (fun _=>?_) (fun _=>?_)<;>cbv)|(refine Need.mk ?_ ?_;rotate_left;cbv)|(refine R0 ?_;cbv))
    all_goals try first
     | (clear ki hse hx hX hRX hRX';lia)
     | (refine⟨?_,.refl _,.refl _,.refl _,?_,trivial⟩;(rename_i i1 ei1 i2 ei2 R eR n1 en1;exact WkR.of_eq (by rw[eR,show i2=k from ei2];exact hse.symm));clear ki hse hx hX hRX hRX';lia)
     | (refine⟨?_,.refl _,.refl _,?_,trivial⟩;(rename_i i1 ei1 i2 ei2 R eR n1 en1;exact WkR.of_eq (by rw[eR,show i2=k from ei2];exact hse.symm));clear ki hse hx hX hRX hRX';lia)
     | (refine⟨⟨?_,?_⟩,?_⟩;(show k+1≤N;omega);(constructor;(intro h;have:=g2.1 rfl;show k+1≤i;omega);(intro _;rfl));(show N-(k+1)<N-k;omega))
     | trace_state
 ·have hb:b=false:=by cases b;rfl;have:=g2.1 rfl;omega
  subst hb
  cbv
  (repeat' first|(refine Na ?_ fun _ _=>?_;(focus lia);cbv)|(refine RetThen.mk [(0,.loc 576),(1,.loc 50)] [] ?_;cbv)|(refine Nl fun _ _ hq=>?_;(try simp only [lenS] at hq);cbv)|(refine Nm fun _ _=>?_;cbv)|(refine Br.t ?_ ?_;(focus first|assumption|lia);cbv)|(refine Br.f ?_ ?_;(focus first|assumption|lia);cbv)|(refine Br.mk (fun _=>?_) (fun _=>?_)<;>cbv)|(refine Need.mk ?_ ?_;rotate_left;cbv)|(refine R0 ?_;cbv))
  all_goals first
   | exact⟨.refl _,.refl _,trivial⟩
   | (exfalso;clear hX hRX hRX';lia)
   | trace_state
def envM (m:Nat→List Mode):Env:={ ty:=fun t=>tyOf t,mode:=m }
theorem hEM (m:Nat→List Mode):EnvOk prog (envM m):=env_ok (by rfl) ty_ok
def modeOf (f:Nat) (l:List Mode):Nat→List Mode:=fun g=>match Nat.beq g f with
 | true=>l
 | false=>env.mode g
structure CtxM (m:Nat→List Mode) (n0:Nat) (F:FnT) (L:LpT):Prop where
 fn:∀ {f args H res H'},Fn prog f args H res H'→F f args H res H'
 loop:∀ {ι:Type} (S:ι→ASt) (I:ι→Prop) (μ:ι→Nat) {b:Code} {st:ASt} {K:AEx→ASt→Prop},regOk b=true→Start S I n0 st→(∀ i,I i→cw (envM m) F L b (S i) (bodyK S I μ n0 i K))→noScope b=true→L b st K
theorem CtxM.loopAt {m:Nat→List Mode} {n0:Nat} {F:FnT} {L:LpT} (C:CtxM m n0 F L) {ι:Type} {b:Code} {st:ASt} {K:AEx→ASt→Prop} (rs:List (Nat×Nat)) (us:ι→List (Nat×PV)) (h:ι→Heap) (I:ι→Prop) (μ:ι→Nat) (hr:regOk b=true)
  (start:Start (fun i=>⟨sets (resets st.tmps rs) (us i),h i⟩) I n0 st) (body:∀ i,I i→cw (envM m) F L b ⟨sets (resets st.tmps rs) (us i),h i⟩ (bodyK (fun i=>⟨sets (resets st.tmps rs) (us i),h i⟩) I μ n0 i K)) (hb:noScope b=true:=by rfl):L b st K :=
 C.loop _ I μ hr start body hb
theorem goM (m : Nat → List Mode) {f : Nat} {fn : Func} {code : Code} {args res : List PV} {H H' : List Sym.Obj} {n : Nat} {rv : List ResultVar} (hf : prog.funcs[f]? = some fn) (hname : fn.name ≠ "runtime.NumGoroutine") (hb : fn.body = some code) (hr : regOk code = true)
    (hn : fn.ntmps - args.length = n) (hrv : fn.results.toList = rv) (h64 : H.length ≤ 64) (h : ∀ F L, CtxM m H.length F L → cw (envM m) F L code ⟨args ++ tops n, heapOf 0 H⟩ (retK (envM m) rv H.length res H')) : Fn prog f args H res H' :=
  .inl (fnB_of_cw (hEM m) hm hf hname hb hr hn hrv fun fc hfc => h _ _ ⟨fun h => h, fun S I μ _ _ _ hr start body hb => loop_rule S I μ (hEM m) (by omega) hm hfc hr start body hb⟩)
theorem confs_fn (O:Opq) (r1 v1 r2 v2:Int) (d e:List Chn) (hl:d.length≤1000000) (hl2:e.length≤1000000) (hm:∀ x∈d,x.mem.length≤1000000) (hm2:∀ x∈e,x.mem.length≤1000000) {Q:Bool} (hQ:Q=true ↔ r1=r2∧v1=v2∧d=e) :
  Fn prog 18 [.agg [.int .i64 r1,.int .i64 v1,.sl false 0 false 5 (O.o (Chns.enc O) d)],.agg [.int .i64 r2,.int .i64 v2,.sl false 0 false 5 (O.o (Chns.enc O) e)]] [] [.bool Q] []:=by
 have k:=sameConf_fn O r1 v1 r2 v2 d e hl hl2 hm hm2 hQ
 clear hQ hm hm2
 refine go (fn:=Proofs.Tryz.f18) (n:=6) (rv:=[ResultVar.tmp 4]) rfl (by decide) rfl (by decide +kernel) rfl rfl (by simp) fun F L C=>?_
 cbv
 (repeat' first|(refine Na ?_ fun _ _=>?_;(focus lia);cbv)|(refine CallThen.mk _ _ (C.fn (k)) ?_;cbv)|(refine Nl fun _ _ hq=>?_;(try simp only [lenS] at hq);cbv)|(refine Nm fun _ _=>?_;cbv)|(refine Br.t ?_ ?_;(focus first|assumption|lia);cbv)|(refine Br.f ?_ ?_;(focus first|assumption|lia);cbv)|(refine Br.mk (fun _=>?_) (fun _=>?_)<;>cbv)|(refine Need.mk ?_ ?_;rotate_left;cbv)|(refine R0 ?_;cbv))
theorem rsame_fn (O:Opq) (r1 v1 r2 v2:Int) (d e:List Chn) (hl:d.length≤1000000) (hl2:e.length≤1000000) (hm:∀ x∈d,x.mem.length≤1000000) (hm2:∀ x∈e,x.mem.length≤1000000) {Q:Bool} (hQ:Q=true ↔ r1=r2∧v1=v2∧d=e) :
  Fn prog 6 [.agg [.int .i64 r1,.int .i64 v1,.sl false 0 false 5 (O.o (Chns.enc O) d)],.agg [.int .i64 r2,.int .i64 v2,.sl false 0 false 5 (O.o (Chns.enc O) e)]] [] [.bool Q] []:=by
 have k:=confs_fn O r1 v1 r2 v2 d e hl hl2 hm hm2 hQ
 clear hQ hm hm2
 refine go (fn:=Proofs.Tryz.f6) (n:=6) (rv:=[ResultVar.tmp 4]) rfl (by decide) rfl (by decide +kernel) rfl rfl (by simp) fun F L C=>?_
 cbv
 (repeat' first|(refine Na ?_ fun _ _=>?_;(focus lia);cbv)|(refine CallThen.mk _ _ (C.fn (k)) ?_;cbv)|(refine Nl fun _ _ hq=>?_;(try simp only [lenS] at hq);cbv)|(refine Nm fun _ _=>?_;cbv)|(refine Br.t ?_ ?_;(focus first|assumption|lia);cbv)|(refine Br.f ?_ ?_;(focus first|assumption|lia);cbv)|(refine Br.mk (fun _=>?_) (fun _=>?_)<;>cbv)|(refine Need.mk ?_ ?_;rotate_left;cbv)|(refine R0 ?_;cbv))
end Go.Sym
