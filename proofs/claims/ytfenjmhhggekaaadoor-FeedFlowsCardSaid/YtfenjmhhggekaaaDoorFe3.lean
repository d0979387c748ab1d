/- Where a subscription stands. -/
import Derived.Test.YtfenjmhhggekaaaDoorPa8
import Derived.Test.YtfenjmhhggekaaaDoorFeA
set_option linter.all false
set_option linter.unusedVariables false
set_option linter.unusedSimpArgs false
namespace Go.Sym
open Go Go.Proofs.Tryd
set_option maxRecDepth 100000
theorem atS1_fn (O : Opq) (s : Sub) (p : ByteArray) : Fn prog 111 [.agg s.enc, .str p] [] [.int .i64 (O.o (cmpK Sub.name) s p)] [] := by
  refine go (fn := Go.Proofs.Tryd.f111) (n := 7) (rv := [ResultVar.tmp 4]) rfl (by decide) rfl (by decide +kernel) rfl rfl (by simp) fun F L C => ?_
  cbv
  (repeat' first | (refine Named.i64 ?_ fun _ _ => ?_; (focus lia); cbv) | (refine CallThen.mk _ _ (C.fn (cmp_fn O _ _)) ?_; cbv) | (refine Named.len fun _ _ hq => ?_; (try simp only [List.length_append, List.length_take, List.length_drop, List.length_replicate, List.length_set] at hq); cbv) | (refine Named.mk fun _ _ => ?_; cbv) | (refine Br.t ?_ ?_; (focus first | assumption | lia); cbv) | (refine Br.f ?_ ?_; (focus first | assumption | lia); cbv) | (refine Br.mk (fun _ => ?_) (fun _ => ?_) <;> cbv) | (refine Need.mk ?_ ?_; rotate_left; cbv) | (refine RetThen.mk [] [] ?_; cbv))
  all_goals exact ⟨by simp only [O.h]; rfl, trivial⟩
theorem bsearchS_fn (O : Opq) (bo : Bool) (d : List Sub) (p : ByteArray) (hd : d.length ≤ 1099511627776) (hs : sortedK Sub.name d) : Fn prog 110 [.sl bo 0 false 2 (O.o Subs.enc d), .str p, .fn 111 [] []] [] [.int .i64 (O.o (posKZ Sub.name) d p), .bool (O.o (getK Sub.name) d p)] [] := by
  have hlen := Subs.len O d
  obtain ⟨N, hN⟩ : ∃ N : Nat, N = d.length := ⟨_, rfl⟩
  cases bo
  all_goals
    refine go (fn := Go.Proofs.Tryd.f110) (n := 46) (rv := [ResultVar.tmp 6, ResultVar.tmp 7]) rfl (by decide) rfl (by decide +kernel) rfl rfl (by simp) fun F L C => ?_
    cbv
    (repeat' first | (refine Named.i64 ?_ fun _ _ => ?_; (focus lia); cbv) | (refine Named.len fun _ _ hq => ?_; (try simp only [List.length_append, List.length_take, List.length_drop, List.length_replicate, List.length_set] at hq); cbv) | (refine Named.mk fun _ _ => ?_; cbv) | (refine Br.t ?_ ?_; (focus first | assumption | lia); cbv) | (refine Br.f ?_ ?_; (focus first | assumption | lia); cbv) | (refine Br.mk (fun _ => ?_) (fun _ => ?_) <;> cbv) | (refine Need.mk ?_ ?_; rotate_left; cbv) | (refine RetThen.mk [] [] ?_; cbv))
    refine LoopThen.mk (C.loopAt (ι := Int × Int) [(9, 11), (15, 34)] (fun x => [(9, .int .i64 x.1), (10, .int .i64 x.2)]) (fun _ => [])
      (fun x => 0 ≤ x.1 ∧ x.1 ≤ x.2 ∧ x.2 ≤ d.length ∧ (∀ (j : Nat) y, j < x.1 → d[j]? = some y → slt y.name p) ∧ (∀ (j : Nat) y, x.2 ≤ j → d[j]? = some y → ¬ slt y.name p)) (fun x => (x.2 - x.1).toNat) (by decide +kernel) (Start.mk (0, (N : Int)) [] [] (by refine ⟨by simp, by simp, by simp [hN], fun j y h => by simp at h; omega, fun j y h1 h2 => ?_⟩; have := (List.getElem?_eq_some_iff.1 h2).1; simp at h1; omega) (by cbv; (repeat' apply And.intro) <;> first | exact True.intro | exact WkR.refl _ | rfl | lia)) ?_)
    rintro ⟨i, j⟩ g
    cbv
    obtain ⟨h1, h2, h3, h4, h5⟩ := g
    simp only at h1 h2 h3 h4 h5
    (repeat' first | (refine Named.i64 ?_ fun _ _ => ?_; (focus lia); cbv) | (refine Named.u64 ?_ fun _ _ => ?_; (focus lia); cbv) | (refine Named.half fun _ _ => ?_; cbv) | (refine Ex.map O Sub.enc rfl ?_ fun x hx => ?_; rotate_left; obtain ⟨q, k'⟩ := x; cbv) | (refine CallThen.mk _ _ (C.fn (atS1_fn O ⟨_, _⟩ _)) ?_; cbv) | (apply Back.of (i := (_, _)) [] []; (focus (cbv; (repeat' apply And.intro) <;> first | exact True.intro | exact WkR.refl _ | rfl))) | (refine Named.len fun _ _ hq => ?_; (try simp only [List.length_append, List.length_take, List.length_drop, List.length_replicate, List.length_set] at hq); cbv) | (refine Named.mk fun _ _ => ?_; cbv) | (refine Br.t ?_ ?_; (focus first | assumption | lia); cbv) | (refine Br.f ?_ ?_; (focus first | assumption | lia); cbv) | (refine Br.mk (fun _ => ?_) (fun _ => ?_) <;> cbv) | (refine Need.mk ?_ ?_; rotate_left; cbv) | (refine RetThen.mk [] [] ?_; cbv))
    all_goals (try subst_vars)
    all_goals simp only [O.h, cmpK_lt, cmpK_eq] at *
    all_goals (repeat' apply And.intro)
    all_goals first
      | exact True.intro
      | lia
      | assumption
      | (refine bsK_lo hs ?_ (by assumption) (by assumption); lia)
      | (refine bsK_hi hs ?_ (by assumption) (by assumption); lia)
      | exact posKZ_at h1 (by lia) h4 (fun k y hk => h5 k y (by lia))
      | exact (getK_at h1 (by assumption) hs h4 (fun k y hk => h5 k y (by lia))).2 (by assumption)
      | (cases hb : getK Sub.name d p with
          | false => rfl
          | true => exact absurd ((getK_at h1 (by assumption) hs h4 (fun k y hk => h5 k y (by lia))).1 hb) (by assumption))
      | exact getK_end (by lia) h4
      | trace_state
theorem atS_fn (O : Opq) (bo : Bool) (f : Feed) (p : ByteArray) (hd : f.subs.length ≤ 1099511627776) (hs : sortedK Sub.name f.subs) : Fn prog 75 [.agg (f.encB O false bo), .str p] [] [.int .i64 (O.o (posKZ Sub.name) f.subs p), .bool (O.o (getK Sub.name) f.subs p)] [] := by
  cases bo
  all_goals
    refine go (fn := Go.Proofs.Tryd.f75) (n := 10) (rv := [ResultVar.tmp 4, ResultVar.tmp 5]) rfl (by decide) rfl (by decide +kernel) rfl rfl (by simp) fun F L C => ?_
    cbv
    (repeat' first | (refine Named.i64 ?_ fun _ _ => ?_; (focus lia); cbv) | (refine CallThen.mk _ _ (C.fn (bsearchS_fn O _ _ _ hd hs)) ?_; cbv) | (refine Named.len fun _ _ hq => ?_; (try simp only [List.length_append, List.length_take, List.length_drop, List.length_replicate, List.length_set] at hq); cbv) | (refine Named.mk fun _ _ => ?_; cbv) | (refine Br.t ?_ ?_; (focus first | assumption | lia); cbv) | (refine Br.f ?_ ?_; (focus first | assumption | lia); cbv) | (refine Br.mk (fun _ => ?_) (fun _ => ?_) <;> cbv) | (refine Need.mk ?_ ?_; rotate_left; cbv) | (refine RetThen.mk [] [] ?_; cbv))
    all_goals exact ⟨rfl, rfl, trivial⟩
theorem ratS_fn (O : Opq) (f : Feed) (p : ByteArray) (hd : f.subs.length ≤ 1099511627776) : Fn prog 78 [.agg (f.enc O), .str p] [] [.int .i64 (O.o (findI (hasK Sub.name p)) f.subs)] [] := by
  have hlen := Subs.len O f.subs
  obtain ⟨N, hN⟩ : ∃ N : Nat, N = f.subs.length := ⟨_, rfl⟩
  obtain ⟨z, hz⟩ : ∃ z : Nat, z = 0 := ⟨_, rfl⟩
  refine go (fn := Go.Proofs.Tryd.f78) (n := 20) (rv := [ResultVar.tmp 4]) rfl (by decide) rfl (by decide +kernel) rfl rfl (by simp) fun F L C => ?_
  cbv
  (repeat' first | (refine Named.i64 ?_ fun _ _ => ?_; (focus lia); cbv) | (refine Named.len fun _ _ hq => ?_; (try simp only [List.length_append, List.length_take, List.length_drop, List.length_replicate, List.length_set] at hq); cbv) | (refine Named.mk fun _ _ => ?_; cbv) | (refine Br.t ?_ ?_; (focus first | assumption | lia); cbv) | (refine Br.f ?_ ?_; (focus first | assumption | lia); cbv) | (refine Br.mk (fun _ => ?_) (fun _ => ?_) <;> cbv) | (refine Need.mk ?_ ?_; rotate_left; cbv) | (refine RetThen.mk [] [] ?_; cbv))
  refine LoopThen.mk (C.loopAt (ι := Nat) [(4, 21)] (fun k => [(4, .int .i64 0), (5, .int .i64 k)]) (fun _ => [(256, .box (f.enc O))])
    (fun k => k ≤ f.subs.length ∧ ∀ (j : Nat) y, j < k → f.subs[j]? = some y → hasK Sub.name p y = false) (fun k => N - k) (by decide +kernel) (Start.mk z [] [] ⟨by lia, fun j y hj => by omega⟩ (by cbv; (repeat' apply And.intro) <;> first | exact True.intro | exact WkR.refl _ | rfl | lia)) ?_)
  intro k g
  cbv
  have h1 : k ≤ f.subs.length := g.1
  have h2 := g.2
  clear g
  (repeat' first | (refine Named.i64 ?_ fun _ _ => ?_; (focus lia); cbv) | (refine Ex.map O Sub.enc rfl ?_ fun x hx => ?_; rotate_left; obtain ⟨q, k'⟩ := x; cbv) | (refine Back.up [] [] ?_ ?_ fun _ _ => ?_; rotate_left 2; cbv) | (refine Named.len fun _ _ hq => ?_; (try simp only [List.length_append, List.length_take, List.length_drop, List.length_replicate, List.length_set] at hq); cbv) | (refine Named.mk fun _ _ => ?_; cbv) | (refine Br.t ?_ ?_; (focus first | assumption | lia); cbv) | (refine Br.f ?_ ?_; (focus first | assumption | lia); cbv) | (refine Br.mk (fun _ => ?_) (fun _ => ?_) <;> cbv) | (refine Need.mk ?_ ?_; rotate_left; cbv) | (refine RetThen.mk [] [] ?_; cbv))
  all_goals (try subst_vars)
  all_goals (try simp only [O.h, natTo, natPred, emp] at *)
  all_goals (try subst_vars)
  all_goals (repeat' apply And.intro)
  all_goals first
    | exact True.intro
    | exact WkR.refl _
    | lia
    | exact findI_at (k := k) (by assumption) (by simp_all [hasK]) h2
    | exact findI_none fun j y hj => h2 j y (by lia)
    | exact srch_step h2 (by assumption) (by simp_all [hasK])
end Go.Sym
