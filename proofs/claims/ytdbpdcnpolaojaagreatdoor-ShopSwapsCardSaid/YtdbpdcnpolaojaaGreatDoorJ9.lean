/- The frame of this seat's walks. -/
import Derived.Test.YtdbpdcnpolaojaaGreatDoorJ8
import Derived.Test.YtdbpdcnpolaojaaGreatDoorJ6
import Derived.Test.YtdbpdcnpolaojaaGreatDoorJ4
import Derived.Test.YtdbpdcnpolaojaaGreatDoorProg
import Derived.Shelf.Strings.SlTrimAscii
set_option linter.all false
set_option linter.unusedVariables false
set_option linter.unusedSimpArgs false
namespace Go.Sym
open Go Go.Proofs.Tryz
def tyOf (t : Nat) : Option TyI := lookTy tyOf_all t
def env : Env := { ty := fun t => tyOf t, mode := fun f => match f with
    | 110 => [.keep]
    | 171 => [.own]
    | 204 => [.own, .bor, .own]
    | 205 => [.own]
    | 214 => [.own]
    | 218 => [.own, .own]
    | 219 => [.own]
    | 233 => [.own]
    | 245 => [.own]
    | _ => [] }
theorem hE : EnvOk prog env := env_ok (by rfl) ty_ok
theorem hm : prog.follows .mixedOrders = true := rfl
structure Ctx (n0 : Nat) (F : FnT) (L : LpT) : Prop where
  fn : ∀ {f args H res H'}, Fn prog f args H res H' → F f args H res H'
  loop : ∀ {ι : Type} (S : ι → ASt) (I : ι → Prop) (μ : ι → Nat) {b : Code} {st : ASt} {K : AEx → ASt → Prop}, regOk b = true → Start S I n0 st → (∀ i, I i → cw env F L b (S i) (bodyK S I μ n0 i K)) → L b st K
theorem Ctx.loopAt {n0 : Nat} {F : FnT} {L : LpT} (C : Ctx n0 F L) {ι : Type} {b : Code} {st : ASt} {K : AEx → ASt → Prop} (rs : List (Nat × Nat)) (us : ι → List (Nat × PV)) (h : ι → Heap) (I : ι → Prop) (μ : ι → Nat) (hr : regOk b = true)
    (start : Start (fun i => ⟨sets (resets st.tmps rs) (us i), h i⟩) I n0 st) (body : ∀ i, I i → cw env F L b ⟨sets (resets st.tmps rs) (us i), h i⟩ (bodyK (fun i => ⟨sets (resets st.tmps rs) (us i), h i⟩) I μ n0 i K)) : L b st K :=
  C.loop _ I μ hr start body
theorem goB {f : Nat} {fn : Func} {code : Code} {args res : List PV} {H H' : List Sym.Obj} {n : Nat} {rv : List ResultVar} (hf : prog.funcs[f]? = some fn) (hname : fn.name ≠ "runtime.NumGoroutine") (hb : fn.body = some code) (hr : regOk code = true)
    (hn : fn.ntmps - args.length = n) (hrv : fn.results.toList = rv) (h64 : H.length ≤ 64) (h : ∀ F L, Ctx H.length F L → cw env F L code ⟨args ++ tops n, heapOf 0 H⟩ (retK env rv H.length res H')) : FnB prog f args H res H' :=
  fnB_of_cw hE hm hf hname hb hr hn hrv fun fc hfc => h _ _ ⟨fun h => h, fun S I μ _ _ _ hr start body => loop_rule S I μ hE (by omega) hm hfc hr start body⟩
theorem go {f : Nat} {fn : Func} {code : Code} {args res : List PV} {H H' : List Sym.Obj} {n : Nat} {rv : List ResultVar} (hf : prog.funcs[f]? = some fn) (hname : fn.name ≠ "runtime.NumGoroutine") (hb : fn.body = some code) (hr : regOk code = true)
    (hn : fn.ntmps - args.length = n) (hrv : fn.results.toList = rv) (h64 : H.length ≤ 64) (h : ∀ F L, Ctx H.length F L → cw env F L code ⟨args ++ tops n, heapOf 0 H⟩ (retK env rv H.length res H')) : Fn prog f args H res H' := .inl (goB hf hname hb hr hn hrv h64 h)
end Go.Sym
namespace Go.Sym
open Go Go.Proofs.Tryz
set_option maxRecDepth 100000
theorem num_fn (O : Opq) (n : Int) : Fn prog 225 [.int .i64 n] [] [.agg (numV n).enc] [] := by
  refine go (fn := Go.Proofs.Tryz.f225) (n := 4) (rv := [ResultVar.cell 2 136]) rfl (by decide) rfl (by decide +kernel) rfl rfl (by simp) fun F L C => ?_
  cbv
  (repeat' first | (refine Named.i64 ?_ fun _ _ => ?_; (focus lia); cbv) | (refine Named.len fun _ _ hq => ?_; (try simp only [List.length_append, List.length_take, List.length_drop, List.length_replicate, List.length_set] at hq); cbv) | (refine Named.mk fun _ _ => ?_; cbv) | (refine Br.t ?_ ?_; (focus first | assumption | lia); cbv) | (refine Br.f ?_ ?_; (focus first | assumption | lia); cbv) | (refine Br.mk (fun _ => ?_) (fun _ => ?_) <;> cbv) | (refine Need.mk ?_ ?_; rotate_left; cbv) | (refine RetThen.mk [] [] ?_; cbv))
theorem text_fn (O : Opq) (s : ByteArray) : Fn prog 228 [.str s] [] [.agg (textV s).enc] [] := by
  refine go (fn := Go.Proofs.Tryz.f228) (n := 4) (rv := [ResultVar.cell 2 136]) rfl (by decide) rfl (by decide +kernel) rfl rfl (by simp) fun F L C => ?_
  cbv
  (repeat' first | (refine Named.i64 ?_ fun _ _ => ?_; (focus lia); cbv) | (refine Named.len fun _ _ hq => ?_; (try simp only [List.length_append, List.length_take, List.length_drop, List.length_replicate, List.length_set] at hq); cbv) | (refine Named.mk fun _ _ => ?_; cbv) | (refine Br.t ?_ ?_; (focus first | assumption | lia); cbv) | (refine Br.f ?_ ?_; (focus first | assumption | lia); cbv) | (refine Br.mk (fun _ => ?_) (fun _ => ?_) <;> cbv) | (refine Need.mk ?_ ?_; rotate_left; cbv) | (refine RetThen.mk [] [] ?_; cbv))
theorem point_fn (O : Opq) (a b : Int) : Fn prog 226 [.int .i64 a, .int .i64 b] [] [.agg (pointV a b).enc] [] := by
  refine go (fn := Go.Proofs.Tryz.f226) (n := 7) (rv := [ResultVar.cell 4 136]) rfl (by decide) rfl (by decide +kernel) rfl rfl (by simp) fun F L C => ?_
  cbv
  (repeat' first | (refine Named.i64 ?_ fun _ _ => ?_; (focus lia); cbv) | (refine Named.len fun _ _ hq => ?_; (try simp only [List.length_append, List.length_take, List.length_drop, List.length_replicate, List.length_set] at hq); cbv) | (refine Named.mk fun _ _ => ?_; cbv) | (refine Br.t ?_ ?_; (focus first | assumption | lia); cbv) | (refine Br.f ?_ ?_; (focus first | assumption | lia); cbv) | (refine Br.mk (fun _ => ?_) (fun _ => ?_) <;> cbv) | (refine Need.mk ?_ ?_; rotate_left; cbv) | (refine RetThen.mk [] [] ?_; cbv))
theorem part_fn (O : Opq) (a : Int) : Fn prog 227 [.int .i64 a] [] [.bool (O.o isPart a)] [] := by
  refine go (fn := Go.Proofs.Tryz.f227) (n := 8) (rv := [ResultVar.tmp 2]) rfl (by decide) rfl (by decide +kernel) rfl rfl (by simp) fun F L C => ?_
  cbv
  (repeat' first | (refine Named.i64 ?_ fun _ _ => ?_; (focus lia); cbv) | (refine Named.len fun _ _ hq => ?_; (try simp only [List.length_append, List.length_take, List.length_drop, List.length_replicate, List.length_set] at hq); cbv) | (refine Named.mk fun _ _ => ?_; cbv) | (refine Br.t ?_ ?_; (focus first | assumption | lia); cbv) | (refine Br.f ?_ ?_; (focus first | assumption | lia); cbv) | (refine Br.mk (fun _ => ?_) (fun _ => ?_) <;> cbv) | (refine Need.mk ?_ ?_; rotate_left; cbv) | (refine RetThen.mk [] [] ?_; cbv))
  all_goals (try subst_vars)
  all_goals (try simp only [O.h, natTo, natPred, emp] at *)
  all_goals (try subst_vars)
  all_goals (repeat' apply And.intro)
  all_goals first
    | exact True.intro
    | exact WkR.refl _
    | lia
    | (simp_all [isPart]; done)
    | (simp_all [isPart] <;> lia)
    | (grind [isPart])
    | skip
theorem key_fn (O : Opq) (s : ByteArray) : Fn prog 82 [.str s] [] [.bool (O.o isKey s)] [] := by
  refine go (fn := Go.Proofs.Tryz.f82) (n := 10) (rv := [ResultVar.tmp 2]) rfl (by decide) rfl (by decide +kernel) rfl rfl (by simp) fun F L C => ?_
  cbv
  (repeat' first | (refine Named.i64 ?_ fun _ _ => ?_; (focus lia); cbv) | (refine Named.len fun _ _ hq => ?_; (try simp only [List.length_append, List.length_take, List.length_drop, List.length_replicate, List.length_set] at hq); cbv) | (refine Named.mk fun _ _ => ?_; cbv) | (refine Br.t ?_ ?_; (focus first | assumption | lia); cbv) | (refine Br.f ?_ ?_; (focus first | assumption | lia); cbv) | (refine Br.mk (fun _ => ?_) (fun _ => ?_) <;> cbv) | (refine Need.mk ?_ ?_; rotate_left; cbv) | (refine RetThen.mk [] [] ?_; cbv))
  all_goals (try subst_vars)
  all_goals (try simp only [O.h, natTo, natPred, emp] at *)
  all_goals (try subst_vars)
  all_goals (repeat' apply And.intro)
  all_goals first
    | exact True.intro
    | exact WkR.refl _
    | lia
    | (simp_all [isKey]; done)
    | (simp_all [isKey] <;> lia)
    | (grind [isKey])
    | skip
theorem rcheck_fn (O : Opq) (v : Val) : Fn prog 210 [.agg v.enc] [] [.int .i64 (O.o Val.err v)] [] := by
  refine go (fn := Go.Proofs.Tryz.f210) (n := 58) (rv := [ResultVar.tmp 2]) rfl (by decide) rfl (by decide +kernel) rfl rfl (by simp) fun F L C => ?_
  cbv
  (repeat' first | (refine Named.i64 ?_ fun _ _ => ?_; (focus lia); cbv) | (refine CallThen.mk _ _ (C.fn (num_fn O _)) ?_; cbv) | (refine CallThen.mk _ _ (C.fn (text_fn O _)) ?_; cbv) | (refine CallThen.mk _ _ (C.fn (point_fn O _ _)) ?_; cbv) | (refine CallThen.bool (C.fn (part_fn O _)) (fun _ => ?_) (fun _ => ?_) <;> cbv) | (refine Named.len fun _ _ hq => ?_; (try simp only [List.length_append, List.length_take, List.length_drop, List.length_replicate, List.length_set] at hq); cbv) | (refine Named.mk fun _ _ => ?_; cbv) | (refine Br.t ?_ ?_; (focus first | assumption | lia); cbv) | (refine Br.f ?_ ?_; (focus first | assumption | lia); cbv) | (refine Br.mk (fun _ => ?_) (fun _ => ?_) <;> cbv) | (refine Need.mk ?_ ?_; rotate_left; cbv) | (refine RetThen.mk [] [] ?_; cbv))
  all_goals (try subst_vars)
  all_goals (try simp only [O.h, natTo, natPred, emp] at *)
  all_goals (try subst_vars)
  all_goals (repeat' apply And.intro)
  all_goals first
    | exact True.intro
    | exact WkR.refl _
    | lia
    | (simp_all [Val.err, Val.Ok, isPart]; done)
    | (simp_all [Val.err, Val.Ok, isPart] <;> lia)
    | (grind [Val.err, Val.Ok, isPart])
    | skip
theorem rcheck2_fn (O : Opq) (v : Val) : Fn prog 173 [.agg v.enc] [] [.int .i64 (O.o Val.err v)] [] := by
  refine go (fn := Go.Proofs.Tryz.f173) (n := 80) (rv := [ResultVar.tmp 2]) rfl (by decide) rfl (by decide +kernel) rfl rfl (by simp) fun F L C => ?_
  cbv
  (repeat' first | (refine Named.i64 ?_ fun _ _ => ?_; (focus lia); cbv) | (refine Named.len fun _ _ hq => ?_; (try simp only [List.length_append, List.length_take, List.length_drop, List.length_replicate, List.length_set] at hq); cbv) | (refine Named.mk fun _ _ => ?_; cbv) | (refine Br.t ?_ ?_; (focus first | assumption | lia); cbv) | (refine Br.f ?_ ?_; (focus first | assumption | lia); cbv) | (refine Br.mk (fun _ => ?_) (fun _ => ?_) <;> cbv) | (refine Need.mk ?_ ?_; rotate_left; cbv) | (refine RetThen.mk [] [] ?_; cbv))
  all_goals (try subst_vars)
  all_goals (try simp only [O.h, natTo, natPred, emp] at *)
  all_goals (try subst_vars)
  all_goals (repeat' apply And.intro)
  all_goals first
    | exact True.intro
    | exact WkR.refl _
    | lia
    | (simp_all [Val.err, Val.Ok, isPart]; done)
    | (simp_all [Val.err, Val.Ok, isPart] <;> lia)
    | (grind [Val.err, Val.Ok, isPart])
    | skip
theorem rpath_fn (O : Opq) (s : ByteArray) (hs : s.size ≤ 9223372036854775807) : Fn prog 172 [.str s] [] [.bool (O.o isPath s)] [] := by
  refine go (fn := Go.Proofs.Tryz.f172) (n := 43) (rv := [ResultVar.tmp 2]) rfl (by decide) rfl (by decide +kernel) rfl rfl (by simp) fun F L C => ?_
  cbv
  refine LoopThen.mk (C.loopAt [(2, 36)] (fun x : Int × Int => [(2, .bool false), (3, .int .i64 x.1), (4, .int .i64 x.2)]) (fun _ => []) (fun x => 0 ≤ x.1 ∧ 0 ≤ x.2 ∧ x.1 ≤ x.2 ∧ x.2 ≤ s.size ∧ scan (s.data.toList.drop x.2.toNat) (decide (0 < x.1)) = scan s.data.toList false) (fun x => s.size - x.2.toNat) (by decide +kernel) (Start.mk (0, 0) [] [] (by simp) (by cbv)) ?_)
  rintro ⟨w, i⟩ ⟨h1, h2, h3, h4, h5⟩
  simp only at h1 h2 h3 h4 h5
  have t1 := fun h => scan_step (s := s) h2 h (decide (0 < w))
  have t2 := fun h => scan_end (s := s) (i := i) h (decide (0 < w))
  cbv
  (repeat' first | (refine Named.i64 ?_ fun _ _ => ?_; (focus lia); cbv) | (apply Back.of (i := (_, _)) [] []; focus (cbv; exact ⟨rfl, rfl, trivial⟩)) | (refine Named.len fun _ _ hq => ?_; (try simp only [List.length_append, List.length_take, List.length_drop, List.length_replicate, List.length_set] at hq); cbv) | (refine Named.mk fun _ _ => ?_; cbv) | (refine Br.t ?_ ?_; (focus first | assumption | lia); cbv) | (refine Br.f ?_ ?_; (focus first | assumption | lia); cbv) | (refine Br.mk (fun _ => ?_) (fun _ => ?_) <;> cbv) | (refine Need.mk ?_ ?_; rotate_left; cbv) | (refine RetThen.mk [] [] ?_; cbv))
  all_goals (try simp only [O.h, natInt, emp] at *)
  all_goals (try simp only [Int.ofNat_eq_natCast] at *)
  all_goals subst_vars
  all_goals (try rw [t1 (by omega)] at h5) <;> (try rw [t2 (by omega)] at h5)
  all_goals clear t1 t2
  all_goals have hw1 : 0 < w + 1 := by omega
  all_goals (try have hd : 0 < w := by assumption) <;> (try have hd : w ≤ 0 := by omega)
  all_goals simp_all [isPath, isLet]
  all_goals first | omega | grind
end Go.Sym
namespace Go.Proofs
open Go.Shelf
def Tryz.trimLays_ren : Go.Shelf.Ren := ⟨fun | 160 => 224 | 232 => 238 | 231 => 237 | 227 => 239 | 234 => 241 | 233 => 240 | 236 => 243 | 235 => 242 | 228 => 249 | 271 => 252 | 151 => 251 | 197 => 250 | 120 => 258 | 152 => 257 | 260 => 256 | 137 => 263 | 119 => 264 | 224 => 261 | 225 => 260 | 217 => 259 | 266 => 265 | n => n, fun | 9 => 9 | 4 => 4 | 3 => 3 | 5 => 5 | 117 => 269 | 116 => 268 | 0 => 0 | 124 => 272 | 21 => 21 | 105 => 277 | 46 => 86 | 119 => 283 | 139 => 286 | 138 => 285 | n => n, fun | 3 => 1 | 4 => 2 | n => n⟩
theorem Tryz.trimLays : Lays.n160 Tryz.prog Tryz.trimLays_ren := {
    mixed := (by kernel_rfl)
    f119 := Tryz.func264.trans (congrArg some (by kernel_rfl))
    f120 := Tryz.func258.trans (congrArg some (by kernel_rfl))
    f137 := Tryz.func263.trans (congrArg some (by kernel_rfl))
    f151 := Tryz.func251.trans (congrArg some (by kernel_rfl))
    f152 := Tryz.func257.trans (congrArg some (by kernel_rfl))
    f160 := Tryz.func224.trans (congrArg some (by kernel_rfl))
    f197 := Tryz.func250.trans (congrArg some (by kernel_rfl))
    f217 := Tryz.func259.trans (congrArg some (by kernel_rfl))
    f224 := Tryz.func261.trans (congrArg some (by kernel_rfl))
    f225 := Tryz.func260.trans (congrArg some (by kernel_rfl))
    f227 := Tryz.func239.trans (congrArg some (by kernel_rfl))
    f228 := Tryz.func249.trans (congrArg some (by kernel_rfl))
    f231 := Tryz.func237.trans (congrArg some (by kernel_rfl))
    f232 := Tryz.func238.trans (congrArg some (by kernel_rfl))
    f233 := Tryz.func240.trans (congrArg some (by kernel_rfl))
    f234 := Tryz.func241.trans (congrArg some (by kernel_rfl))
    f235 := Tryz.func242.trans (congrArg some (by kernel_rfl))
    f236 := Tryz.func243.trans (congrArg some (by kernel_rfl))
    f260 := Tryz.func256.trans (congrArg some (by kernel_rfl))
    f266 := Tryz.func265.trans (congrArg some (by kernel_rfl))
    f271 := Tryz.func252.trans (congrArg some (by kernel_rfl))
    t0 := Tryz.underlying0
    a0 := Tryz.isAgg0
    z0 := Tryz.sizeOf0
    v0 := Tryz.zeroValue0
    t3 := Tryz.underlying3
    a3 := Tryz.isAgg3
    z3 := Tryz.sizeOf3
    v3 := Tryz.zeroValue3
    t4 := Tryz.underlying4
    a4 := Tryz.isAgg4
    z4 := Tryz.sizeOf4
    v4 := Tryz.zeroValue4
    t5 := Tryz.underlying5
    a5 := Tryz.isAgg5
    z5 := Tryz.sizeOf5
    v5 := Tryz.zeroValue5
    t9 := Tryz.underlying9
    a9 := Tryz.isAgg9
    z9 := Tryz.sizeOf9
    v9 := Tryz.zeroValue9
    t21 := Tryz.underlying21
    a21 := Tryz.isAgg21
    z21 := Tryz.sizeOf21
    v21 := Tryz.zeroValue21
    t46 := Tryz.underlying86
    a46 := Tryz.isAgg86
    z46 := Tryz.sizeOf86
    v46 := Tryz.zeroValue86
    t105 := Tryz.underlying277
    a105 := Tryz.isAgg277
    z105 := Tryz.sizeOf277
    v105 := Tryz.zeroValue277
    t116 := Tryz.underlying268
    a116 := Tryz.isAgg268
    z116 := Tryz.sizeOf268
    t117 := Tryz.underlying269
    a117 := Tryz.isAgg269
    z117 := Tryz.sizeOf269
    v117 := Tryz.zeroValue269
    t119 := Tryz.underlying283
    a119 := Tryz.isAgg283
    z119 := Tryz.sizeOf283
    t124 := Tryz.underlying272
    a124 := Tryz.isAgg272
    z124 := Tryz.sizeOf272
    v124 := Tryz.zeroValue272
    t138 := Tryz.underlying285
    a138 := Tryz.isAgg285
    z138 := Tryz.sizeOf285
    v138 := Tryz.zeroValue285
    t139 := Tryz.underlying286
    a139 := Tryz.isAgg286
    z139 := Tryz.sizeOf286
    v139 := Tryz.zeroValue286
    g3 := (by kernel_rfl)
    g4 := (by kernel_rfl) }
end Go.Proofs
