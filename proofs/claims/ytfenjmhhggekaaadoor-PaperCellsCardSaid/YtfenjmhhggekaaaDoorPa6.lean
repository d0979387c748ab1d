/- Where a path stands; what is set. -/
import Derived.Test.YtfenjmhhggekaaaDoorPa5
set_option linter.all false
set_option linter.unusedVariables false
set_option linter.unusedSimpArgs false
namespace Go.Sym
open Go Go.Proofs.Tryd
set_option maxRecDepth 100000
theorem rget_fn (O : Opq) (d : Doc) (p : ByteArray) (hd : d.length ≤ 1099511627776) : Fn prog 25 [.sl false 0 false 6 (O.o Doc.enc d), .str p] [] [.int .i64 (O.o getI d p)] [] := by
  have hlen : (O.o Doc.enc d).length = d.length := by rw [O.h, Doc.enc_len]
  obtain ⟨N, hN⟩ : ∃ N : Nat, N = d.length := ⟨_, rfl⟩
  refine go (fn := Go.Proofs.Tryd.f25) (n := 18) (rv := [ResultVar.tmp 4]) rfl (by decide) rfl (by decide +kernel) rfl rfl (by simp) fun F L C => ?_
  cbv
  (repeat' first | (refine Named.i64 ?_ fun _ _ => ?_; (focus lia); cbv) | (refine Named.len fun _ _ hq => ?_; (try simp only [List.length_append, List.length_take, List.length_drop, List.length_replicate, List.length_set] at hq); cbv) | (refine Named.mk fun _ _ => ?_; cbv) | (refine Br.t ?_ ?_; (focus first | assumption | lia); cbv) | (refine Br.f ?_ ?_; (focus first | assumption | lia); cbv) | (refine Br.mk (fun _ => ?_) (fun _ => ?_) <;> cbv) | (refine Need.mk ?_ ?_; rotate_left; cbv) | (refine RetThen.mk [] [] ?_; cbv))
  refine LoopThen.mk (C.loopAt (ι := Nat) [(4, 19)] (fun k => [(4, .int .i64 0), (5, .int .i64 k)]) (fun _ => [])
    (fun k => k ≤ d.length ∧ ∀ (j : Nat) y, j < k → d[j]? = some y → hasP p y = false) (fun k => N - k) (by decide +kernel) (Start.mk 0 [] [] (by simp) (by cbv; (repeat' apply And.intro) <;> first | exact True.intro | exact WkR.refl _ | rfl | lia)) ?_)
  rintro k ⟨h1, h2⟩
  cbv
  (repeat' first | (refine Named.i64 ?_ fun _ _ => ?_; (focus lia); cbv) | (refine Ex.map O Field.enc rfl ?_ fun _ _ => ?_; rotate_left; cbv) | (refine Back.up [] [] ?_ ?_ fun _ _ => ?_; rotate_left 2; cbv) | (refine Named.len fun _ _ hq => ?_; (try simp only [List.length_append, List.length_take, List.length_drop, List.length_replicate, List.length_set] at hq); cbv) | (refine Named.mk fun _ _ => ?_; cbv) | (refine Br.t ?_ ?_; (focus first | assumption | lia); cbv) | (refine Br.f ?_ ?_; (focus first | assumption | lia); cbv) | (refine Br.mk (fun _ => ?_) (fun _ => ?_) <;> cbv) | (refine Need.mk ?_ ?_; rotate_left; cbv) | (refine RetThen.mk [] [] ?_; cbv))
  all_goals (try subst_vars)
  all_goals (try simp only [O.h, natTo, natPred, emp] at *)
  all_goals (try subst_vars)
  all_goals (repeat' apply And.intro)
  all_goals first
    | exact True.intro
    | exact WkR.refl _
    | lia
    | exact findI_at (k := k) (by assumption) (by simp_all [hasP]) h2
    | exact findI_none fun j y hj => h2 j y (by lia)
    | exact srch_step h2 (by assumption) (by simp_all [hasP])
theorem cmpX_fn (O : Opq) (a b : ByteArray) : Fn prog 138 [.str a, .str b] [] [.int .i64 (O.o cmpS a b)] [] := by
  refine .inr ⟨rfl, fun k us _ _ h => ⟨.int .i64 (cmpS a b), ?_, by rw [O.h]; exact .plain (.int _ _)⟩⟩
  obtain rfl := repL_str2 h
  rw [run_callFunc_extern (fn := Go.Proofs.Tryd.f138) rfl (by decide) (by rfl) (by kernel_rfl) (e := Extern.BytealgCompare.compare) (by kernel_rfl), Lib.run_compareString]
  rfl
theorem cmpB_fn (O : Opq) (a b : ByteArray) : Fn prog 127 [.str a, .str b] [] [.int .i64 (O.o cmpS a b)] [] := by
  refine go (fn := Go.Proofs.Tryd.f127) (n := 6) (rv := [ResultVar.tmp 4]) rfl (by decide) rfl (by decide +kernel) rfl rfl (by simp) fun F L C => ?_
  cbv
  (repeat' first | (refine Named.i64 ?_ fun _ _ => ?_; (focus lia); cbv) | (refine CallThen.mk _ _ (C.fn (cmpX_fn O _ _)) ?_; cbv) | (refine Named.len fun _ _ hq => ?_; (try simp only [List.length_append, List.length_take, List.length_drop, List.length_replicate, List.length_set] at hq); cbv) | (refine Named.mk fun _ _ => ?_; cbv) | (refine Br.t ?_ ?_; (focus first | assumption | lia); cbv) | (refine Br.f ?_ ?_; (focus first | assumption | lia); cbv) | (refine Br.mk (fun _ => ?_) (fun _ => ?_) <;> cbv) | (refine Need.mk ?_ ?_; rotate_left; cbv) | (refine RetThen.mk [] [] ?_; cbv))
theorem cmp_fn (O : Opq) (a b : ByteArray) : Fn prog 106 [.str a, .str b] [] [.int .i64 (O.o cmpS a b)] [] := by
  refine go (fn := Go.Proofs.Tryd.f106) (n := 6) (rv := [ResultVar.tmp 4]) rfl (by decide) rfl (by decide +kernel) rfl rfl (by simp) fun F L C => ?_
  cbv
  (repeat' first | (refine Named.i64 ?_ fun _ _ => ?_; (focus lia); cbv) | (refine CallThen.mk _ _ (C.fn (cmpB_fn O _ _)) ?_; cbv) | (refine Named.len fun _ _ hq => ?_; (try simp only [List.length_append, List.length_take, List.length_drop, List.length_replicate, List.length_set] at hq); cbv) | (refine Named.mk fun _ _ => ?_; cbv) | (refine Br.t ?_ ?_; (focus first | assumption | lia); cbv) | (refine Br.f ?_ ?_; (focus first | assumption | lia); cbv) | (refine Br.mk (fun _ => ?_) (fun _ => ?_) <;> cbv) | (refine Need.mk ?_ ?_; rotate_left; cbv) | (refine RetThen.mk [] [] ?_; cbv))
theorem at1_fn (O : Opq) (f : Field) (p : ByteArray) : Fn prog 105 [.agg f.enc, .str p] [] [.int .i64 (O.o cmpF f p)] [] := by
  refine go (fn := Go.Proofs.Tryd.f105) (n := 7) (rv := [ResultVar.tmp 4]) rfl (by decide) rfl (by decide +kernel) rfl rfl (by simp) fun F L C => ?_
  cbv
  (repeat' first | (refine Named.i64 ?_ fun _ _ => ?_; (focus lia); cbv) | (refine CallThen.mk _ _ (C.fn (cmp_fn O _ _)) ?_; cbv) | (refine Named.len fun _ _ hq => ?_; (try simp only [List.length_append, List.length_take, List.length_drop, List.length_replicate, List.length_set] at hq); cbv) | (refine Named.mk fun _ _ => ?_; cbv) | (refine Br.t ?_ ?_; (focus first | assumption | lia); cbv) | (refine Br.f ?_ ?_; (focus first | assumption | lia); cbv) | (refine Br.mk (fun _ => ?_) (fun _ => ?_) <;> cbv) | (refine Need.mk ?_ ?_; rotate_left; cbv) | (refine RetThen.mk [] [] ?_; cbv))
  all_goals exact ⟨by simp only [O.h]; rfl, trivial⟩
theorem bsearch_fn (O : Opq) (d : Doc) (p : ByteArray) (hd : d.length ≤ 1099511627776) (hs : sorted d) : Fn prog 104 [.sl false 0 false 6 (O.o Doc.enc d), .str p, .fn 105 [] []] [] [.int .i64 (O.o posZ d p), .bool (O.o getB d p)] [] := by
  have hlen : (O.o Doc.enc d).length = d.length := by rw [O.h, Doc.enc_len]
  obtain ⟨N, hN⟩ : ∃ N : Nat, N = d.length := ⟨_, rfl⟩
  refine go (fn := Go.Proofs.Tryd.f104) (n := 46) (rv := [ResultVar.tmp 6, ResultVar.tmp 7]) rfl (by decide) rfl (by decide +kernel) rfl rfl (by simp) fun F L C => ?_
  cbv
  (repeat' first | (refine Named.i64 ?_ fun _ _ => ?_; (focus lia); cbv) | (refine Named.len fun _ _ hq => ?_; (try simp only [List.length_append, List.length_take, List.length_drop, List.length_replicate, List.length_set] at hq); cbv) | (refine Named.mk fun _ _ => ?_; cbv) | (refine Br.t ?_ ?_; (focus first | assumption | lia); cbv) | (refine Br.f ?_ ?_; (focus first | assumption | lia); cbv) | (refine Br.mk (fun _ => ?_) (fun _ => ?_) <;> cbv) | (refine Need.mk ?_ ?_; rotate_left; cbv) | (refine RetThen.mk [] [] ?_; cbv))
  refine LoopThen.mk (C.loopAt (ι := Int × Int) [(9, 11), (15, 34)] (fun x => [(9, .int .i64 x.1), (10, .int .i64 x.2)]) (fun _ => [])
    (fun x => 0 ≤ x.1 ∧ x.1 ≤ x.2 ∧ x.2 ≤ d.length ∧ (∀ (j : Nat) y, j < x.1 → d[j]? = some y → slt y.path p) ∧ (∀ (j : Nat) y, x.2 ≤ j → d[j]? = some y → ¬ slt y.path p)) (fun x => (x.2 - x.1).toNat) (by decide +kernel) (Start.mk (0, (N : Int)) [] [] (by refine ⟨by simp, by simp, by simp [hN], fun j y h => by simp at h; omega, fun j y h1 h2 => ?_⟩; have := (List.getElem?_eq_some_iff.1 h2).1; simp at h1; omega) (by cbv; (repeat' apply And.intro) <;> first | exact True.intro | exact WkR.refl _ | rfl | lia)) ?_)
  rintro ⟨i, j⟩ ⟨h1, h2, h3, h4, h5⟩
  simp only at h1 h2 h3 h4 h5
  cbv
  (repeat' first | (refine Named.i64 ?_ fun _ _ => ?_; (focus lia); cbv) | (refine Named.u64 ?_ fun _ _ => ?_; (focus lia); cbv) | (refine Named.half fun _ _ => ?_; cbv) | (refine Ex.map O Field.enc rfl ?_ fun x hx => ?_; rotate_left; obtain ⟨q, k', n', t', a', b'⟩ := x; cbv) | (refine CallThen.mk _ _ (C.fn (at1_fn O ⟨_, _, _, _, _, _⟩ _)) ?_; cbv) | (apply Back.of (i := (_, _)) [] []; (focus (cbv; (repeat' apply And.intro) <;> first | exact True.intro | exact WkR.refl _ | rfl))) | (refine Named.len fun _ _ hq => ?_; (try simp only [List.length_append, List.length_take, List.length_drop, List.length_replicate, List.length_set] at hq); cbv) | (refine Named.mk fun _ _ => ?_; cbv) | (refine Br.t ?_ ?_; (focus first | assumption | lia); cbv) | (refine Br.f ?_ ?_; (focus first | assumption | lia); cbv) | (refine Br.mk (fun _ => ?_) (fun _ => ?_) <;> cbv) | (refine Need.mk ?_ ?_; rotate_left; cbv) | (refine RetThen.mk [] [] ?_; cbv))
  all_goals (try subst_vars)
  all_goals simp only [O.h, cmpF_lt, cmpF_eq] at *
  all_goals (repeat' apply And.intro)
  all_goals first
    | exact True.intro
    | lia
    | assumption
    | (refine bs_lo hs ?_ (by assumption) (by assumption); lia)
    | (refine bs_hi hs ?_ (by assumption) (by assumption); lia)
    | exact posZ_at h1 (by lia) h4 (fun k y hk => h5 k y (by lia))
    | exact (getB_at h1 (by assumption) hs h4 (fun k y hk => h5 k y (by lia))).2 (by assumption)
    | (cases hb : getB d p with
        | false => rfl
        | true => exact absurd ((getB_at h1 (by assumption) hs h4 (fun k y hk => h5 k y (by lia))).1 hb) (by assumption))
    | exact getB_end (by lia) h4
    | trace_state
theorem at_fn (O : Opq) (d : Doc) (p : ByteArray) (hd : d.length ≤ 1099511627776) (hs : sorted d) : Fn prog 66 [.sl false 0 false 6 (O.o Doc.enc d), .str p] [] [.int .i64 (O.o posZ d p), .bool (O.o getB d p)] [] := by
  refine go (fn := Go.Proofs.Tryd.f66) (n := 9) (rv := [ResultVar.tmp 4, ResultVar.tmp 5]) rfl (by decide) rfl (by decide +kernel) rfl rfl (by simp) fun F L C => ?_
  cbv
  (repeat' first | (refine Named.i64 ?_ fun _ _ => ?_; (focus lia); cbv) | (refine CallThen.mk _ _ (C.fn (bsearch_fn O _ _ hd hs)) ?_; cbv) | (refine Named.len fun _ _ hq => ?_; (try simp only [List.length_append, List.length_take, List.length_drop, List.length_replicate, List.length_set] at hq); cbv) | (refine Named.mk fun _ _ => ?_; cbv) | (refine Br.t ?_ ?_; (focus first | assumption | lia); cbv) | (refine Br.f ?_ ?_; (focus first | assumption | lia); cbv) | (refine Br.mk (fun _ => ?_) (fun _ => ?_) <;> cbv) | (refine Need.mk ?_ ?_; rotate_left; cbv) | (refine RetThen.mk [] [] ?_; cbv))
  all_goals exact ⟨rfl, rfl, trivial⟩
end Go.Sym
