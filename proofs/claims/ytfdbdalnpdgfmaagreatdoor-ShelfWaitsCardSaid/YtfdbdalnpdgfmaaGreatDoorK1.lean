/- Short names. -/
import Derived.Test.YtfdbdalnpdgfmaaGreatDoorJ6
set_option linter.all false
set_option linter.unusedVariables false
set_option linter.unusedSimpArgs false
namespace Go.Sym
open Go
theorem lenS:(∀ (α:Type) (a b:List α),(a++b).length=a.length+b.length)∧(∀ (α:Type) (n:Nat) (a:List α),(a.take n).length=min n a.length)∧(∀ (α:Type) (n:Nat) (a:List α),(a.drop n).length=a.length-n)∧(∀ (α:Type) (n:Nat) (x:α),(List.replicate n x).length=n)∧∀ (α:Type) (a:List α) (n:Nat) (x:α),(a.set n x).length=a.length :=
 ⟨fun _ _ _=>List.length_append,fun _ _ _=>List.length_take,fun _ _ _=>List.length_drop,fun _ _ _=>List.length_replicate,fun _ _ _ _=>List.length_set⟩
abbrev Na:=@Named.i64
abbrev Nl:=@Named.len
abbrev Nm:=@Named.mk
abbrev R0 {E:Env} {rv:List ResultVar} {n0:Nat} {res:List PV} {H':List Obj} {st:ASt}:=@RetThen.mk E rv n0 res H' st [] []
open Go Go.Proofs.Tryz
def tyOf (t:Nat):Option TyI:=lookTy tyOf_all t
def env:Env:={ ty:=fun t=>tyOf t,mode:=fun f=>match f with
  | 54=>[.own]
  | 57=>[.own,.bor,.own]
  | 78=>[.own,.own]
  | 79=>[.own]
  | 109=>[.own]
  | 130=>[.own]
  | _=>[] }
theorem hE:EnvOk prog env:=env_ok (by rfl) ty_ok
theorem hm:prog.follows .mixedOrders=true:=rfl
structure Ctx (n0:Nat) (F:FnT) (L:LpT):Prop where
 fn:∀ {f args H res H'},Fn prog f args H res H'→F f args H res H'
 loop:∀ {ι:Type} (S:ι→ASt) (I:ι→Prop) (μ:ι→Nat) {b:Code} {st:ASt} {K:AEx→ASt→Prop},regOk b=true→Start S I n0 st→(∀ i,I i→cw env F L b (S i) (bodyK S I μ n0 i K))→noScope b=true→L b st K
 scope:∀ {ι:Type} (S:ι→ASt) (I:ι→Prop) (μ:ι→Nat) {b rest:Code} {l:Nat} {st:ASt} {K:AEx→ASt→Prop},findLabel b l=some rest→regOk b=true→regOk rest=true→cw env F L b st (jumpK0 S I n0 l K)→(∀ i,I i→cw env F L rest (S i) (jumpK S I μ n0 l i K))→L (.scope b) st K
theorem Ctx.loopAt {n0:Nat} {F:FnT} {L:LpT} (C:Ctx n0 F L) {ι:Type} {b:Code} {st:ASt} {K:AEx→ASt→Prop} (rs:List (Nat×Nat)) (us:ι→List (Nat×PV)) (h:ι→Heap) (I:ι→Prop) (μ:ι→Nat) (hr:regOk b=true)
  (start:Start (fun i=>⟨sets (resets st.tmps rs) (us i),h i⟩) I n0 st) (body:∀ i,I i→cw env F L b ⟨sets (resets st.tmps rs) (us i),h i⟩ (bodyK (fun i=>⟨sets (resets st.tmps rs) (us i),h i⟩) I μ n0 i K)) (hb:noScope b=true:=by rfl):L b st K :=
 C.loop _ I μ hr start body hb
theorem Ctx.scopeAt {n0:Nat} {F:FnT} {L:LpT} (C:Ctx n0 F L) {ι:Type} {b rest:Code} {l:Nat} {st:ASt} {K:AEx→ASt→Prop} (rs:List (Nat×Nat)) (us:ι→List (Nat×PV)) (h:ι→Heap) (I:ι→Prop) (μ:ι→Nat) (hf:findLabel b l=some rest) (hr:regOk b=true) (hr2:regOk rest=true)
  (first:cw env F L b st (jumpK0 (fun i=>⟨sets (resets st.tmps rs) (us i),h i⟩) I n0 l K)) (body:∀ i,I i→cw env F L rest ⟨sets (resets st.tmps rs) (us i),h i⟩ (jumpK (fun i=>⟨sets (resets st.tmps rs) (us i),h i⟩) I μ n0 l i K)):L (.scope b) st K :=
 C.scope _ I μ hf hr hr2 first body
theorem goB {f : Nat} {fn : Func} {code : Code} {args res : List PV} {H H' : List Sym.Obj} {n : Nat} {rv : List ResultVar} (hf : prog.funcs[f]? = some fn) (hname : fn.name ≠ "runtime.NumGoroutine") (hb : fn.body = some code) (hr : regOk code = true)
    (hn : fn.ntmps - args.length = n) (hrv : fn.results.toList = rv) (h64 : H.length ≤ 64) (h : ∀ F L, Ctx H.length F L → cw env F L code ⟨args ++ tops n, heapOf 0 H⟩ (retK env rv H.length res H')) : FnB prog f args H res H' :=
  fnB_of_cw hE hm hf hname hb hr hn hrv fun fc hfc => h _ _ ⟨fun h => h, fun S I μ _ _ _ hr start body hb => loop_rule S I μ hE (by omega) hm hfc hr start body hb, fun S I μ _ _ _ _ _ hf hr hr2 first body => scope_rule S I μ hE (by omega) hm hfc hf hr hr2 first body⟩
theorem go {f : Nat} {fn : Func} {code : Code} {args res : List PV} {H H' : List Sym.Obj} {n : Nat} {rv : List ResultVar} (hf : prog.funcs[f]? = some fn) (hname : fn.name ≠ "runtime.NumGoroutine") (hb : fn.body = some code) (hr : regOk code = true)
    (hn : fn.ntmps - args.length = n) (hrv : fn.results.toList = rv) (h64 : H.length ≤ 64) (h : ∀ F L, Ctx H.length F L → cw env F L code ⟨args ++ tops n, heapOf 0 H⟩ (retK env rv H.length res H')) : Fn prog f args H res H' := .inl (goB hf hname hb hr hn hrv h64 h)
def ty:ByteArray:=⟨#[121]⟩
open Go Go.Proofs Go.Proofs.Tryz
set_option maxRecDepth 10000
theorem shape_str {n:Nat} {xs:List PV} (h:shape prog n 9 xs):∃ s:ByteArray,xs=[.str s]∧s.size≤9223372036854775807:=by
 cases n with
 | zero=>exact h.elim
 | succ n=>simp only [shape,Tryz.underlying9] at h;exact h
theorem shape_int {n:Nat} {xs:List PV} (h:shape prog n 3 xs):∃ m:Int,xs=[.int .i64 m]∧-9223372036854775808≤m∧m≤9223372036854775807:=by
 cases n with
 | zero=>exact h.elim
 | succ n =>
  simp only [shape,Tryz.underlying3] at h
  obtain⟨m,rfl,hm⟩:=h
  refine⟨m,rfl,?_⟩
  simp only [Lit.wf,Bool.and_eq_true,decide_eq_true_eq] at hm
  exact hm
def inInt (m:Int):Prop:=-9223372036854775808≤m∧m≤9223372036854775807
def inStr (s:ByteArray):Prop:=s.size≤9223372036854775807
theorem c3:prog.cellsOf 3=1:=by decide +kernel
theorem c9:prog.cellsOf 9=1:=by decide +kernel
theorem rows_of {α:Type} {e:α→List PV} {In:α→Prop} {Q:List PV→Prop} (hq:∀ r,Q r→∃ a,r=e a∧In a):∀ {rows:List (List PV)},(∀ r∈rows,Q r)→∃ l:List α,rows=l.map e∧∀ a∈l,In a
 | [],_=>⟨[],rfl,by simp⟩
 | r::rows,h=>by
  obtain⟨a,ha,ia⟩:=hq r (h r (by simp))
  obtain⟨l,hl,il⟩:=rows_of (rows:=rows) hq fun r hr=>h r (List.mem_cons_of_mem _ hr)
  exact⟨a::l,by simp [ha,hl],by simpa using⟨ia,il⟩⟩
theorem rows_wkx {α:Type} {e:α→List PV} {In:α→Prop} {Q:List PV→Prop} (hq:∀ r,Q r→∃ a,WkL (e a) r∧In a):∀ {rows:List (List PV)},(∀ r∈rows,Q r)→∃ l:List α,WkR (l.map e) rows∧l.length=rows.length∧∀ a∈l,In a
 | [],_=>⟨[],.refl _,rfl,by simp⟩
 | r::rows,h=>by
  obtain⟨a,ha,ia⟩:=hq r (h r (by simp))
  obtain⟨l,hl,ll,il⟩:=rows_wkx (rows:=rows) hq fun r hr=>h r (List.mem_cons_of_mem _ hr)
  exact⟨a::l,.cons ha hl,by simp [ll],by simpa using⟨ia,il⟩⟩
end Go.Sym
