/- The frame of this seat's walks. -/
import Derived.Test.YtdbpdcnpolaojaaEnvR
import Derived.Test.YtdbpdcnpolaojaaSymJoined3
set_option linter.all false
set_option linter.unusedVariables false
set_option linter.unusedSimpArgs false
namespace Go.Sym
open Go Go.Proofs.Try
def tyOf (t : Nat) : Option TyI := lookTy tyOf_all t
def env : Env := { ty := fun t => tyOf t, mode := fun f => match f with
    | 23 => [.keep]
    | 34 => [.own]
    | 43 => [.own]
    | _ => [] }
theorem hE : EnvOk prog env := env_ok (by rfl) ty_ok
theorem hm : prog.follows .mixedOrders = true := rfl
/-- What a function's proof may use: the contracts of others, and the rule for loops. -/
structure Ctx (n0 : Nat) (F : FnT) (L : LpT) : Prop where
  fn : ∀ {f args H res H'}, Fn prog f args H res H' → F f args H res H'
  loop : ∀ {ι : Type} (S : ι → ASt) (I : ι → Prop) (μ : ι → Nat) {b : Code} {st : ASt} {K : AEx → ASt → Prop}, regOk b = true → Start S I n0 st → (∀ i, I i → cw env F L b (S i) (bodyK S I μ n0 i K)) → L b st K
theorem Ctx.loopAt {n0 : Nat} {F : FnT} {L : LpT} (C : Ctx n0 F L) {ι : Type} {b : Code} {st : ASt} {K : AEx → ASt → Prop} (rs : List (Nat × Nat)) (us : ι → List (Nat × PV)) (h : ι → Heap) (I : ι → Prop) (μ : ι → Nat) (hr : regOk b = true)
    (start : Start (fun i => ⟨sets (resets st.tmps rs) (us i), h i⟩) I n0 st) (body : ∀ i, I i → cw env F L b ⟨sets (resets st.tmps rs) (us i), h i⟩ (bodyK (fun i => ⟨sets (resets st.tmps rs) (us i), h i⟩) I μ n0 i K)) : L b st K :=
  C.loop _ I μ hr start body
/-- A function of the program by its code. -/
theorem goB {f : Nat} {fn : Func} {code : Code} {args res : List PV} {H H' : List Sym.Obj} {n : Nat} {rv : List ResultVar} (hf : prog.funcs[f]? = some fn) (hname : fn.name ≠ "runtime.NumGoroutine") (hb : fn.body = some code) (hr : regOk code = true)
    (hn : fn.ntmps - args.length = n) (hrv : fn.results.toList = rv) (h64 : H.length ≤ 64) (h : ∀ F L, Ctx H.length F L → cw env F L code ⟨args ++ tops n, heapOf 0 H⟩ (retK env rv H.length res H')) : FnB prog f args H res H' :=
  fnB_of_cw hE hm hf hname hb hr hn hrv fun fc hfc => h _ _ ⟨fun h => h, fun S I μ _ _ _ hr start body => loop_rule S I μ hE (by omega) hm hfc hr start body⟩
/-- A function of the program by its code. -/
theorem go {f : Nat} {fn : Func} {code : Code} {args res : List PV} {H H' : List Sym.Obj} {n : Nat} {rv : List ResultVar} (hf : prog.funcs[f]? = some fn) (hname : fn.name ≠ "runtime.NumGoroutine") (hb : fn.body = some code) (hr : regOk code = true)
    (hn : fn.ntmps - args.length = n) (hrv : fn.results.toList = rv) (h64 : H.length ≤ 64) (h : ∀ F L, Ctx H.length F L → cw env F L code ⟨args ++ tops n, heapOf 0 H⟩ (retK env rv H.length res H')) : Fn prog f args H res H' := .inl (goB hf hname hb hr hn hrv h64 h)
end Go.Sym
