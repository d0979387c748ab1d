/- Configurations alike. -/
import Derived.Test.YtbneclkckmdkgaaGreatDoorK22
import Derived.LaidLaws
import Derived.Lib.LaidTab
import Derived.MakeChecks
import Derived.KernelRfl
set_option linter.all false
set_option linter.unusedVariables false
set_option linter.unusedSimpArgs false
namespace Go.Sym
open Go Go.Proofs.Tryz
set_option maxRecDepth 100000
theorem Chn.eq_iff {a b:Chn}:a=b ↔ a.id=b.id∧a.dfn=b.dfn∧a.epoch=b.epoch∧a.joiner=b.joiner∧a.mem=b.mem:=by
 obtain⟨a1,a2,a3,a4,a5⟩:=a
 obtain⟨b1,b2,b3,b4,b5⟩:=b
 simp only [Chn.mk.injEq]
 exact⟨fun h=>⟨h.1,h.2.1,h.2.2.1,h.2.2.2.2,h.2.2.2.1⟩,fun h=>⟨h.1,h.2.1,h.2.2.1,h.2.2.2.2,h.2.2.2.1⟩⟩
set_option maxHeartbeats 2000000 in
theorem sameConf_fn (O:Opq) (r1 v1 r2 v2:Int) (d e:List Chn) (hl:d.length≤1000000) (hl2:e.length≤1000000) (hm:∀ x∈d,x.mem.length≤1000000) (hm2:∀ x∈e,x.mem.length≤1000000) {Q:Bool} (hQ:Q=true ↔ r1=r2∧v1=v2∧d=e) :
  Fn prog 36 [.agg [.int .i64 r1,.int .i64 v1,.sl false 0 false 5 (O.o (Chns.enc O) d)],.agg [.int .i64 r2,.int .i64 v2,.sl false 0 false 5 (O.o (Chns.enc O) e)]] [] [.bool Q] []:=by
 have h1:=Chns.len O d
 have h2:=Chns.len O e
 by_cases hg:r1=r2∧v1=v2∧d.length=e.length
 ·obtain⟨g1,g2,g3⟩:=hg
  have hne:d≠e→Q=false:=fun h=>by
   cases Q with
   | false=>rfl
   | true=>exact absurd (hQ.1 rfl).2.2 h
  have heq:d=e→Q=true:=fun h=>hQ.2 ⟨g1,g2,h⟩
  obtain⟨z,hz⟩:∃ z:Nat,z=0:=⟨_,rfl⟩
  obtain⟨N,hN⟩:∃ N:Nat,N=d.length:=⟨_,rfl⟩
  clear hQ
  refine go (fn:=Proofs.Tryz.f36) (n:=78) (rv:=[ResultVar.tmp 4]) rfl (by decide) rfl (by decide +kernel) rfl rfl (by simp) fun F L C=>?_
  cbv
  (repeat' first|(refine Na ?_ fun _ _=>?_;(focus lia);cbv)|(refine Nl fun _ _ hq=>?_;(try simp only [lenS] at hq);cbv)|(refine Nm fun _ _=>?_;cbv)|(refine Br.t ?_ ?_;(focus first|assumption|lia);cbv)|(refine Br.f ?_ ?_;(focus first|assumption|lia);cbv)|(refine Br.mk (fun _=>?_) (fun _=>?_)<;>cbv)|(refine Need.mk ?_ ?_;rotate_left;cbv)|(refine R0 ?_;cbv))
  all_goals try(exfalso;clear hne heq hm hm2;lia)
  refine LoopThen.mk (C.loopAt (ι:=Nat) [(4,7),(29,79)] (fun k=>[(5,.int .i64 k),(6,.top),(7,.top)]) (fun _=>[(256,.box [.int .i64 r1,.int .i64 v1,.sl false 0 false 5 (O.o (Chns.enc O) d)]),(320,.box [.int .i64 r2,.int .i64 v2,.sl false 0 false 5 (O.o (Chns.enc O) e)])])
   (fun k=>k≤d.length∧∀ (j:Nat),j<k→d[j]?=e[j]?) (fun k=>N-k) (by decide +kernel) (Start.mk z [] [] ⟨by omega,fun j hj=>by omega⟩ ?_) ?_)
  ·cbv
   (repeat' apply And.intro)<;>first|exact True.intro|exact WkR.refl _|rfl|(clear hne heq hm hm2;lia)|trace_state
  intro k g
  cbv
  have i1:k≤d.length:=g.1
  have i2:∀ (j:Nat),j<k→d[j]?=e[j]?:=g.2
  clear g
  by_cases hk:k<d.length
  ·obtain⟨x,hx⟩:∃ x,d[k]?=some x:=⟨d[k],by simp [hk]⟩
   obtain⟨y,hy⟩:∃ y,e[k]?=some y:=⟨e[k]'(by omega),by simp⟩
   have ki:=rints_fn O x.mem y.mem (hm x (List.mem_of_getElem? hx)) (hm2 y (List.mem_of_getElem? hy))
   have hI:O.o (sameI x.mem) y.mem=true ↔ x.mem=y.mem:=by rw[O.h,sameI,decide_eq_true_eq]
   have hxy:=Chn.eq_iff (a:=x) (b:=y)
   have hst:x=y→∀ (j:Nat),j<k+1→d[j]?=e[j]?:=fun h j hj=>by
    by_cases ej:j=k
    ·subst ej;rw[hx,hy,h]
    ·exact i2 j (by omega)
   have hnx:¬ x=y→Q=false:=fun h=>hne fun q=>h (by rw[q,hy] at hx;exact(Option.some.inj hx).symm)
   obtain⟨I,eI⟩:∃ I,I=O.o (sameI x.mem) y.mem:=⟨_,rfl⟩
   rw[← eI] at ki hI
   rw[hxy,← hI] at hst hnx
   clear hne heq i2 hm hm2 eI hxy hI
   obtain⟨a1,a2,a3,a4,a5⟩:=x
   obtain⟨b1,b2,b3,b4,b5⟩:=y
   have hst:a1=b1∧a2=b2∧a3=b3∧a5=b5∧I=true→_:=hst
   have hnx:¬ (a1=b1∧a2=b2∧a3=b3∧a5=b5∧I=true)→Q=false:=hnx
   (repeat' first|(refine Na ?_ fun _ _=>?_;(focus lia);cbv)|(refine Ex.chn O hx ?_ ?_;(focus lia);cbv)|(refine Ex.chn O hy ?_ ?_;(focus lia);cbv)|(refine CallThen.bool (C.fn (ki)) (fun _=>?_) (fun _=>?_)<;>cbv)|(refine Back.up [] [] ?_ ?_ fun _ _=>?_;rotate_left 2;cbv;refine And.intro ?_ ?_)|(refine Nl fun _ _ hq=>?_;(try simp only [lenS] at hq);cbv)|(refine Nm fun _ _=>?_;cbv)|(refine Br.t ?_ ?_;(focus first|assumption|lia);cbv)|(refine Br.f ?_ ?_;(focus first|assumption|lia);cbv)|(refine Br.mk (fun _=>?_) (fun _=>?_)<;>cbv)|(refine Need.mk ?_ ?_;rotate_left;cbv)|(refine R0 ?_;cbv))
   all_goals clear ki hx hy
   all_goals first
    | exact WkR.refl _
    | exact⟨by clear hst hnx;lia,hst ⟨by assumption,by assumption,by assumption,by assumption,by assumption⟩⟩
    | exact⟨hnx (fun h=>by first|exact absurd h.1 (by assumption)|exact absurd h.2.1 (by assumption)|exact absurd h.2.2.1 (by assumption)|exact absurd h.2.2.2.1 (by assumption)|exact absurd (h.2.2.2.2.symm.trans (show I=false by assumption)) (by decide)),trivial⟩
    | (refine⟨.refl _,.refl _,.refl _,?_,.refl _,.refl _,trivial⟩;clear hst hnx;lia)
    | (clear hst hnx;lia)
    | trace_state
  ·have:d=e:=List.ext_getElem? fun j=>by
    by_cases hj:j<d.length
    ·exact i2 j (by omega)
    ·rw[List.getElem?_eq_none (by omega),List.getElem?_eq_none (by omega)]
   have hq:=heq this
   clear hne heq i2 this hm hm2
   (repeat' first|(refine Na ?_ fun _ _=>?_;(focus lia);cbv)|(refine Nl fun _ _ hq=>?_;(try simp only [lenS] at hq);cbv)|(refine Nm fun _ _=>?_;cbv)|(refine Br.t ?_ ?_;(focus first|assumption|lia);cbv)|(refine Br.f ?_ ?_;(focus first|assumption|lia);cbv)|(refine Br.mk (fun _=>?_) (fun _=>?_)<;>cbv)|(refine Need.mk ?_ ?_;rotate_left;cbv)|(refine R0 ?_;cbv))
   all_goals first
    | exact⟨hq,trivial⟩
    | (exfalso;lia)
    | trace_state
 ·have hq:Q=false:=by
   cases Q with
   | false=>rfl
   | true=>exact absurd ⟨(hQ.1 rfl).1,(hQ.1 rfl).2.1,by rw[(hQ.1 rfl).2.2]⟩ hg
  clear hQ hm hm2
  refine go (fn:=Proofs.Tryz.f36) (n:=78) (rv:=[ResultVar.tmp 4]) rfl (by decide) rfl (by decide +kernel) rfl rfl (by simp) fun F L C=>?_
  cbv
  (repeat' first|(refine Na ?_ fun _ _=>?_;(focus lia);cbv)|(refine Nl fun _ _ hq=>?_;(try simp only [lenS] at hq);cbv)|(refine Nm fun _ _=>?_;cbv)|(refine Br.t ?_ ?_;(focus first|assumption|lia);cbv)|(refine Br.f ?_ ?_;(focus first|assumption|lia);cbv)|(refine Br.mk (fun _=>?_) (fun _=>?_)<;>cbv)|(refine Need.mk ?_ ?_;rotate_left;cbv)|(refine R0 ?_;cbv))
  all_goals first
   | exact⟨hq,trivial⟩
   | (exfalso;exact hg ⟨by lia,by lia,by lia⟩)
   | trace_state
def lightC (d:List Chn):Prop:=d.length≤10∧∀ x∈d,x.mem.length≤20∧x.dfn.size≤600
theorem light_fn (O:Opq) (rev ever:Int) (d:List Chn) {Q:Bool} (hQ:Q=true ↔ lightC d) :
  Fn prog 10 [.agg [.int .i64 rev,.int .i64 ever,.sl false 0 false 5 (O.o (Chns.enc O) d)]] [] [.bool Q] []:=by
 have h1:=Chns.len O d
 obtain⟨z,hz⟩:∃ z:Nat,z=0:=⟨_,rfl⟩
 obtain⟨N,hN⟩:∃ N:Nat,N=d.length:=⟨_,rfl⟩
 refine go (fn:=Proofs.Tryz.f10) (n:=36) (rv:=[ResultVar.tmp 2]) rfl (by decide) rfl (by decide +kernel) rfl rfl (by simp) fun F L C=>?_
 cbv
 (repeat' first|(refine Na ?_ fun _ _=>?_;(focus lia);cbv)|(refine Nl fun _ _ hq=>?_;(try simp only [lenS] at hq);cbv)|(refine Nm fun _ _=>?_;cbv)|(refine Br.t ?_ ?_;(focus first|assumption|lia);cbv)|(refine Br.f ?_ ?_;(focus first|assumption|lia);cbv)|(refine Br.mk (fun _=>?_) (fun _=>?_)<;>cbv)|(refine Need.mk ?_ ?_;rotate_left;cbv)|(refine R0 ?_;cbv))
 refine LoopThen.mk (C.loopAt (ι:=Nat) [(2,32)] (fun k=>[(3,.int .i64 k)]) (fun _=>[(192,.box [.int .i64 rev,.int .i64 ever,.sl false 0 false 5 (O.o (Chns.enc O) d)])])
  (fun k=>k≤d.length∧k≤10∧∀ x∈d.take k,x.mem.length≤20∧x.dfn.size≤600) (fun k=>N-k) (by decide +kernel) (Start.mk z [] [] ⟨by omega,by omega,fun x hx=>by rw[hz] at hx;simp at hx⟩ ?_) ?_)
 ·cbv
  (repeat' apply And.intro)<;>first|exact True.intro|exact WkR.refl _|rfl|(clear hQ;lia)|trace_state
 intro k g
 cbv
 have g1:k≤d.length:=g.1
 have g2:k≤10:=g.2.1
 have g3:∀ x∈d.take k,x.mem.length≤20∧x.dfn.size≤600:=g.2.2
 clear g
 by_cases hk:k<d.length∧k<10
 ·obtain⟨x,hx⟩:∃ x,d[k]?=some x:=⟨d[k]'hk.1,by simp [hk.1]⟩
  have hml:=NumsE.len O x.mem
  have hst:x.mem.length≤20→x.dfn.size≤600→∀ y∈d.take (k+1),y.mem.length≤20∧y.dfn.size≤600:=fun a b y hy=>by
   rw[take_snoc hx] at hy
   rcases List.mem_append.1 hy with hy|hy
   ·exact g3 y hy
   ·simp at hy;subst hy;exact⟨a,b⟩
  have hno:¬ (x.mem.length≤20∧x.dfn.size≤600)→Q=false:=fun h=>by
   cases Q with
   | false=>rfl
   | true=>exact absurd ((hQ.1 rfl).2 x (List.mem_of_getElem? hx)) h
  clear hQ g3
  obtain⟨a1,a2,a3,a4,a5⟩:=x
  have hml:(O.o NumsE a4).length=a4.length:=hml
  have hst:a4.length≤20→a2.size≤600→_:=hst
  have hno:¬ (a4.length≤20∧a2.size≤600)→Q=false:=hno
  (repeat' first|(refine Na ?_ fun _ _=>?_;(focus lia);cbv)|(refine Ex.chn O hx ?_ ?_;(focus lia);cbv)|(refine Back.up [] [] ?_ ?_ fun _ _=>?_;rotate_left 2;cbv;refine And.intro ?_ ?_)|(refine Nl fun _ _ hq=>?_;(try simp only [lenS] at hq);cbv)|(refine Nm fun _ _=>?_;cbv)|(refine Br.t ?_ ?_;(focus first|assumption|lia);cbv)|(refine Br.f ?_ ?_;(focus first|assumption|lia);cbv)|(refine Br.mk (fun _=>?_) (fun _=>?_)<;>cbv)|(refine Need.mk ?_ ?_;rotate_left;cbv)|(refine R0 ?_;cbv))
  all_goals clear hx
  all_goals first
   | exact WkR.refl _
   | exact⟨by clear hst hno;lia,by clear hst hno;lia,hst (by clear hst hno;lia) (by clear hst hno;lia)⟩
   | exact⟨hno (fun h=>by have h1:=h.1;have h2:=h.2;clear hst hno;lia),trivial⟩
   | (refine⟨.refl _,?_,trivial⟩;clear hst hno;lia)
   | (clear hst hno;lia)
   | trace_state
 ·have hq:Q=true ↔ d.length≤10:=by
   rw[hQ,lightC]
   refine⟨fun h=>h.1,fun h=>⟨h,?_⟩⟩
   rw[List.take_of_length_le (by omega)] at g3
   exact g3
  clear hQ g3
  cases Q
  all_goals
   (repeat' first|(refine Na ?_ fun _ _=>?_;(focus lia);cbv)|(refine Nl fun _ _ hq=>?_;(try simp only [lenS] at hq);cbv)|(refine Nm fun _ _=>?_;cbv)|(refine Br.t ?_ ?_;(focus first|assumption|lia);cbv)|(refine Br.f ?_ ?_;(focus first|assumption|lia);cbv)|(refine Br.mk (fun _=>?_) (fun _=>?_)<;>cbv)|(refine Need.mk ?_ ?_;rotate_left;cbv)|(refine R0 ?_;cbv))
   all_goals first
    | exact⟨rfl,trivial⟩
    | (exfalso;simp only [true_iff,false_iff,Bool.false_eq_true] at hq;lia)
    | (exfalso;lia)
    | trace_state
open Go Go.Proofs Go.Proofs.Tryz
set_option maxRecDepth 10000
theorem cCi:prog.cellsOf 3=1:=by decide +kernel
theorem shape_ints {n:Nat} {x:PV} (h:shape prog n 26 [x]):∃ l:List Int,Wk (.sl false 0 false 1 (NumsE l)) x∧l.length≤9223372036854775807:=by
 cases n with
 | zero=>exact h.elim
 | succ n =>
  simp only [shape,Tryz.underlying26,cCi] at h
  rcases h with h | ⟨rows,h,hl,hr⟩
  ·cases h
   exact⟨[],.nil _ _,by simp⟩
  ·cases h
   obtain⟨l,rfl,_⟩:=rows_of (e:=fun m:Int=>[PV.int .i64 m]) (In:=fun _=>True) (fun r hr=>by obtain⟨m,e,_⟩:=shape_int hr;exact⟨m,e,trivial⟩) hr
   exact⟨l,.sl' rfl rfl (.refl _),by simpa [maxLen] using hl⟩
theorem cCo0:prog.cellsOf 34=5:=by decide +kernel
theorem cCo1:prog.cellsOf 3=1:=by decide +kernel
theorem cCo2:prog.cellsOf 9=1:=by decide +kernel
theorem cCo3:prog.cellsOf 26=1:=by decide +kernel
def Chn.In (c:Chn):Prop:=inInt (c.id)∧inStr (c.dfn)∧inInt (c.epoch)∧(c.mem).length≤9223372036854775807∧inInt (c.joiner)
theorem shape_chn {n:Nat} {xs:List PV} (h:shape prog n 34 xs):∃ c:Chn,WkL (Chn.enc Opq.id c) xs∧c.In:=by
 cases n with
 | zero=>exact h.elim
 | succ n =>
  simp only [shape,Tryz.underlying34,List.forall_mem_cons,List.not_mem_nil,false_imp_iff,implies_true,and_true,cCo0,cCo1,cCo2,cCo3] at h
  obtain⟨hl,h0,h1,h2,h3,h4⟩:=h
  match xs,hl with
  | [x0,x1,x2,x3,x4],_ =>
  obtain⟨a0,e0,i0⟩:=shape_int (xs:=[x0]) h0
  obtain⟨a1,e1,i1⟩:=shape_str (xs:=[x1]) h1
  obtain⟨a2,e2,i2⟩:=shape_int (xs:=[x2]) h2
  obtain⟨a3,w3,i3⟩:=shape_ints (x:=x3) h3
  obtain⟨a4,e4,i4⟩:=shape_int (xs:=[x4]) h4
  cases e0;cases e1;cases e2;cases e4
  exact⟨⟨a0,a1,a2,a3,a4⟩,(WkL.append (WkL.refl [_]) (WkL.append (WkL.refl [_]) (WkL.append (WkL.refl [_]) (WkL.append (WkL.cons w3 (WkL.refl [])) (WkL.refl [_]))))),⟨i0,i1,i2,i3,i4⟩⟩
theorem shape_chns {n:Nat} {x:PV} (h:shape prog n 23 [x]):∃ l:List Chn,Wk (.sl false 0 false 5 (l.map (Chn.enc Opq.id))) x∧l.length≤9223372036854775807∧∀ c∈l,c.In:=by
 cases n with
 | zero=>exact h.elim
 | succ n =>
  simp only [shape,Tryz.underlying23,cCo0] at h
  rcases h with h | ⟨rows,h,hl,hr⟩
  ·cases h
   exact⟨[],.nil _ _,by simp,by simp⟩
  ·cases h
   obtain⟨l,hw,hll,hi⟩:=rows_wkx (fun r hr=>shape_chn hr) hr
   exact⟨l,.sl' rfl rfl hw,by rw[hll];simpa [maxLen] using hl,hi⟩
theorem cCo4:prog.cellsOf 25=3:=by decide +kernel
theorem cCo5:prog.cellsOf 23=1:=by decide +kernel
def Cnf.In (c:Cnf):Prop:=inInt (c.rev)∧inInt (c.ever)∧((c.chains).length≤9223372036854775807∧∀ y∈c.chains,y.In)
theorem shape_cnf {n:Nat} {xs:List PV} (h:shape prog n 25 xs):∃ c:Cnf,WkL (Cnf.enc Opq.id c) xs∧c.In:=by
 cases n with
 | zero=>exact h.elim
 | succ n =>
  simp only [shape,Tryz.underlying25,List.forall_mem_cons,List.not_mem_nil,false_imp_iff,implies_true,and_true,cCo4,cCo1,cCo5] at h
  obtain⟨hl,h0,h1,h2⟩:=h
  match xs,hl with
  | [x0,x1,x2],_ =>
  obtain⟨a0,e0,i0⟩:=shape_int (xs:=[x0]) h0
  obtain⟨a1,e1,i1⟩:=shape_int (xs:=[x1]) h1
  obtain⟨a2,w2,i2⟩:=shape_chns (x:=x2) h2
  cases e0;cases e1
  exact⟨⟨a0,a1,a2⟩,(WkL.append (WkL.refl [_]) (WkL.append (WkL.refl [_]) (WkL.cons w2 (WkL.refl [])))),⟨i0,i1,i2⟩⟩
theorem cCo6:prog.cellsOf 28=6:=by decide +kernel
def CmdK.In (c:CmdK):Prop:=inInt (c.kind)∧inInt (c.chain)∧inInt (c.epoch)∧inInt (c.node)∧inStr (c.dfn)∧(c.nodes).length≤9223372036854775807
theorem shape_cmdk {n:Nat} {xs:List PV} (h:shape prog n 28 xs):∃ c:CmdK,WkL (CmdK.enc Opq.id c) xs∧c.In:=by
 cases n with
 | zero=>exact h.elim
 | succ n =>
  simp only [shape,Tryz.underlying28,List.forall_mem_cons,List.not_mem_nil,false_imp_iff,implies_true,and_true,cCo6,cCo1,cCo2,cCo3] at h
  obtain⟨hl,h0,h1,h2,h3,h4,h5⟩:=h
  match xs,hl with
  | [x0,x1,x2,x3,x4,x5],_ =>
  obtain⟨a0,e0,i0⟩:=shape_int (xs:=[x0]) h0
  obtain⟨a1,e1,i1⟩:=shape_int (xs:=[x1]) h1
  obtain⟨a2,e2,i2⟩:=shape_int (xs:=[x2]) h2
  obtain⟨a3,e3,i3⟩:=shape_int (xs:=[x3]) h3
  obtain⟨a4,e4,i4⟩:=shape_str (xs:=[x4]) h4
  obtain⟨a5,w5,i5⟩:=shape_ints (x:=x5) h5
  cases e0;cases e1;cases e2;cases e3;cases e4
  exact⟨⟨a0,a1,a2,a3,a4,a5⟩,(WkL.append (WkL.refl [_]) (WkL.append (WkL.refl [_]) (WkL.append (WkL.refl [_]) (WkL.append (WkL.refl [_]) (WkL.append (WkL.refl [_]) (WkL.cons w5 (WkL.refl []))))))),⟨i0,i1,i2,i3,i4,i5⟩⟩
theorem laid_at {P:Program} {w:World} {n:String} {d:DataW Unit}:∀ {laid:List (String×DataW Unit)} {ps:List MemPlace},DataW.LaidVars P w laid ps→(n,d)∈laid →
  ∃ g t cs fuel p,P.globalNamed n=some g∧(P.globals[g]?).map (·.type)=some t∧w.var? P n=some cs∧DataW.trod (fun _=>()) P w 0 (fun _=>true) false fuel t cs.toList=some (d,p)
 | [],_,_,h=>by simp at h
 | (n',d')::r,ps,hl,h=>by
  obtain⟨g,t,cs,fuel,p,q,h1,h2,h3,h4,h5,_⟩:=hl
  rcases List.mem_cons.1 h with e|h
  ·cases e;exact⟨g,t,cs,fuel,p,h1,h2,h3,h4⟩
  ·exact laid_at h5 h
theorem hok_tab {laid:List (String×DataW Unit)} {W:World} {zs:List Int} {ps:List MemPlace} (hv:DataW.LaidVars prog W laid ps) (h1:(thePow,Lib.tabData .u64 zs)∈laid):Lib.TabIs prog W thePow .u64 zs:=by
 obtain⟨g,t,cs,fuel,p,hg,ht,hc,hd⟩:=laid_at hv h1
 have eg:prog.globalNamed thePow=some 5:=by kernel_rfl
 obtain rfl:=Option.some.inj (eg.symm.trans hg)
 have et:(prog.globals[5]?).map (·.type)=some 146:=by kernel_rfl
 obtain rfl:=Option.some.inj (et.symm.trans ht)
 have hcs:=Lib.cells_of_tab underlying146 underlying127 (by kernel_rfl) (by kernel_rfl) hd
 unfold Lib.TabIs
 rw[hc,← hcs]
theorem hok {laid:List (String×DataW Unit)} {W:World} {en:String} {ed:DataW Unit} (h:laidMet prog laid W) (h1:(thePow,Lib.tabData .u64 Lib.pow10Tab)∈laid) (h2:(theErr,.iface en ed)∈laid):theLaid.ok W:=by
 obtain⟨ps,hv,_⟩:=h
 obtain⟨g,t,cs',fuel,p,hg,ht,hc',hd'⟩:=laid_at hv h2
 have eg:prog.globalNamed theErr=some 4:=by kernel_rfl
 obtain rfl:=Option.some.inj (eg.symm.trans hg)
 have et:(prog.globals[4]?).map (·.type)=some 98:=by kernel_rfl
 obtain rfl:=Option.some.inj (et.symm.trans ht)
 obtain⟨f,u,v,hv',_,_⟩:=iface_of_trod underlying98 hd'
 refine⟨hok_tab hv h1,u,v,?_⟩
 rw[hc']
 exact congrArg some (Array.ext' hv')
end Go.Sym
