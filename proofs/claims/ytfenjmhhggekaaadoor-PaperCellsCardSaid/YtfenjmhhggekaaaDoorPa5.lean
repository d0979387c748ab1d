/- Documents alike; what is got. -/
import Derived.Test.YtfenjmhhggekaaaDoorPa4
import Derived.Test.YtfenjmhhggekaaaDoorPaD
set_option linter.all false
set_option linter.unusedVariables false
set_option linter.unusedSimpArgs false
namespace Go.Sym
open Go Go.Proofs.Tryd
set_option maxRecDepth 100000
theorem sliceEqL_fn (O : Opq) (d e : Doc) (hd : d.length ≤ 1099511627776) : Fn prog 65 [.sl true 0 false 6 (O.o Doc.enc d), .sl true 0 false 6 (O.o Doc.enc e)] [] [.bool (O.o sameDoc d e)] [] := by
  have hlen : (O.o Doc.enc d).length = d.length := by rw [O.h, Doc.enc_len]
  have hlen2 : (O.o Doc.enc e).length = e.length := by rw [O.h, Doc.enc_len]
  obtain ⟨N, hN⟩ : ∃ N : Nat, N = d.length := ⟨_, rfl⟩
  refine go (fn := Go.Proofs.Tryd.f65) (n := 24) (rv := [ResultVar.tmp 4]) rfl (by decide) rfl (by decide +kernel) rfl rfl (by simp) fun F L C => ?_
  cbv
  (repeat' first | (refine Named.i64 ?_ fun _ _ => ?_; (focus lia); cbv) | (refine Named.len fun _ _ hq => ?_; (try simp only [List.length_append, List.length_take, List.length_drop, List.length_replicate, List.length_set] at hq); cbv) | (refine Named.mk fun _ _ => ?_; cbv) | (refine Br.t ?_ ?_; (focus first | assumption | lia); cbv) | (refine Br.f ?_ ?_; (focus first | assumption | lia); cbv) | (refine Br.mk (fun _ => ?_) (fun _ => ?_) <;> cbv) | (refine Need.mk ?_ ?_; rotate_left; cbv) | (refine RetThen.mk [] [] ?_; cbv))
  rotate_left
  · exact ⟨by simp only [O.h]; exact sameDoc_len (by lia), trivial⟩
  have hl : d.length = e.length := by lia
  refine LoopThen.mk (C.loopAt (ι := Nat) [(4, 5), (13, 25)] (fun k => [(4, .bool false), (13, .int .i64 k)]) (fun _ => [])
    (fun k => k ≤ d.length ∧ ∀ (j : Nat), j < k → d[j]? = e[j]?) (fun k => N - k) (by decide +kernel) (Start.mk 0 [] [] (by simp) (by cbv; (repeat' apply And.intro) <;> first | exact True.intro | exact WkR.refl _ | rfl | lia)) ?_)
  rintro k ⟨h1, h2⟩
  cbv
  (repeat' first | (refine Named.i64 ?_ fun _ _ => ?_; (focus lia); cbv) | (refine Ex.map O Field.enc rfl ?_ fun _ _ => ?_; rotate_left; cbv) | (refine Back.up [] [] ?_ ?_ fun _ _ => ?_; rotate_left 2; cbv) | (refine Named.len fun _ _ hq => ?_; (try simp only [List.length_append, List.length_take, List.length_drop, List.length_replicate, List.length_set] at hq); cbv) | (refine Named.mk fun _ _ => ?_; cbv) | (refine Br.t ?_ ?_; (focus first | assumption | lia); cbv) | (refine Br.f ?_ ?_; (focus first | assumption | lia); cbv) | (refine Br.mk (fun _ => ?_) (fun _ => ?_) <;> cbv) | (refine Need.mk ?_ ?_; rotate_left; cbv) | (refine RetThen.mk [] [] ?_; cbv))
  all_goals (try subst_vars)
  all_goals (try simp only [O.h, natTo, natPred, emp, fieldCells] at *)
  all_goals (try subst_vars)
  all_goals (repeat' apply And.intro)
  all_goals first
    | exact True.intro
    | exact WkR.refl _
    | lia
    | exact below_step h2 (by grind)
    | exact sameDoc_at (k := k) (by grind)
    | exact sameDoc_all hl fun j hj => h2 j (by lia)
theorem sameL_fn (O : Opq) (d e : Doc) (hd : d.length ≤ 1099511627776) : Fn prog 19 [.sl true 0 false 6 (O.o Doc.enc d), .sl true 0 false 6 (O.o Doc.enc e)] [] [.bool (O.o sameDoc d e)] [] := by
  refine go (fn := Go.Proofs.Tryd.f19) (n := 6) (rv := [ResultVar.tmp 4]) rfl (by decide) rfl (by decide +kernel) rfl rfl (by simp) fun F L C => ?_
  cbv
  (repeat' first | (refine Named.i64 ?_ fun _ _ => ?_; (focus lia); cbv) | (refine CallThen.mk _ _ (C.fn (sliceEqL_fn O _ _ hd)) ?_; cbv) | (refine Named.len fun _ _ hq => ?_; (try simp only [List.length_append, List.length_take, List.length_drop, List.length_replicate, List.length_set] at hq); cbv) | (refine Named.mk fun _ _ => ?_; cbv) | (refine Br.t ?_ ?_; (focus first | assumption | lia); cbv) | (refine Br.f ?_ ?_; (focus first | assumption | lia); cbv) | (refine Br.mk (fun _ => ?_) (fun _ => ?_) <;> cbv) | (refine Need.mk ?_ ?_; rotate_left; cbv) | (refine RetThen.mk [] [] ?_; cbv))
  all_goals exact ⟨rfl, trivial⟩
theorem rsameL_fn (O : Opq) (d e : Doc) (hd : d.length ≤ 1099511627776) : Fn prog 20 [.sl true 0 false 6 (O.o Doc.enc d), .sl true 0 false 6 (O.o Doc.enc e)] [] [.bool (O.o sameDoc d e)] [] := by
  have hlen : (O.o Doc.enc d).length = d.length := by rw [O.h, Doc.enc_len]
  have hlen2 : (O.o Doc.enc e).length = e.length := by rw [O.h, Doc.enc_len]
  obtain ⟨N, hN⟩ : ∃ N : Nat, N = d.length := ⟨_, rfl⟩
  refine go (fn := Go.Proofs.Tryd.f20) (n := 24) (rv := [ResultVar.tmp 4]) rfl (by decide) rfl (by decide +kernel) rfl rfl (by simp) fun F L C => ?_
  cbv
  (repeat' first | (refine Named.i64 ?_ fun _ _ => ?_; (focus lia); cbv) | (refine Named.len fun _ _ hq => ?_; (try simp only [List.length_append, List.length_take, List.length_drop, List.length_replicate, List.length_set] at hq); cbv) | (refine Named.mk fun _ _ => ?_; cbv) | (refine Br.t ?_ ?_; (focus first | assumption | lia); cbv) | (refine Br.f ?_ ?_; (focus first | assumption | lia); cbv) | (refine Br.mk (fun _ => ?_) (fun _ => ?_) <;> cbv) | (refine Need.mk ?_ ?_; rotate_left; cbv) | (refine RetThen.mk [] [] ?_; cbv))
  rotate_left
  · exact ⟨by simp only [O.h]; exact sameDoc_len (by lia), trivial⟩
  have hl : d.length = e.length := by lia
  refine LoopThen.mk (C.loopAt (ι := Nat) [(4, 5), (11, 25)] (fun k => [(4, .bool false), (5, .int .i64 k)]) (fun _ => [])
    (fun k => k ≤ d.length ∧ ∀ (j : Nat), j < k → d[j]? = e[j]?) (fun k => N - k) (by decide +kernel) (Start.mk 0 [] [] (by simp) (by cbv; (repeat' apply And.intro) <;> first | exact True.intro | exact WkR.refl _ | rfl | lia)) ?_)
  rintro k ⟨h1, h2⟩
  cbv
  (repeat' first | (refine Named.i64 ?_ fun _ _ => ?_; (focus lia); cbv) | (refine Ex.map O Field.enc rfl ?_ fun _ _ => ?_; rotate_left; cbv) | (refine Back.up [] [] ?_ ?_ fun _ _ => ?_; rotate_left 2; cbv) | (refine Named.len fun _ _ hq => ?_; (try simp only [List.length_append, List.length_take, List.length_drop, List.length_replicate, List.length_set] at hq); cbv) | (refine Named.mk fun _ _ => ?_; cbv) | (refine Br.t ?_ ?_; (focus first | assumption | lia); cbv) | (refine Br.f ?_ ?_; (focus first | assumption | lia); cbv) | (refine Br.mk (fun _ => ?_) (fun _ => ?_) <;> cbv) | (refine Need.mk ?_ ?_; rotate_left; cbv) | (refine RetThen.mk [] [] ?_; cbv))
  all_goals (try subst_vars)
  all_goals (try simp only [O.h, natTo, natPred, emp, fieldCells] at *)
  all_goals (try subst_vars)
  all_goals (repeat' apply And.intro)
  all_goals first
    | exact True.intro
    | exact WkR.refl _
    | lia
    | exact below_step h2 (by grind)
    | exact sameDoc_at (k := k) (by grind)
    | exact sameDoc_all hl fun j hj => h2 j (by lia)
theorem same_fn (O : Opq) (d e : Doc) (hd : d.length ≤ 1099511627776) : Fn prog 19 [.sl false 0 false 6 (O.o Doc.enc d), .sl false 0 false 6 (O.o Doc.enc e)] [] [.bool (O.o sameDoc d e)] [] :=
  (sameL_fn O d e hd).wkA (.cons (.lend rfl) (.cons (.lend rfl) .nil))
theorem rsame_fn (O : Opq) (d e : Doc) (hd : d.length ≤ 1099511627776) : Fn prog 20 [.sl false 0 false 6 (O.o Doc.enc d), .sl false 0 false 6 (O.o Doc.enc e)] [] [.bool (O.o sameDoc d e)] [] :=
  (rsameL_fn O d e hd).wkA (.cons (.lend rfl) (.cons (.lend rfl) .nil))
theorem hasP_fn (O : Opq) (p : ByteArray) (f : Field) : Fn prog 74 [.agg f.enc, .ptr 0 0] [.box [.str p]] [.bool (O.o hasP p f)] [.box [.str p]] := by
  refine go (fn := Go.Proofs.Tryd.f74) (n := 6) (rv := [ResultVar.tmp 3]) rfl (by decide) rfl (by decide +kernel) rfl rfl (by simp) fun F L C => ?_
  cbv
  (repeat' first | (refine Named.i64 ?_ fun _ _ => ?_; (focus lia); cbv) | (refine Named.len fun _ _ hq => ?_; (try simp only [List.length_append, List.length_take, List.length_drop, List.length_replicate, List.length_set] at hq); cbv) | (refine Named.mk fun _ _ => ?_; cbv) | (refine Br.t ?_ ?_; (focus first | assumption | lia); cbv) | (refine Br.f ?_ ?_; (focus first | assumption | lia); cbv) | (refine Br.mk (fun _ => ?_) (fun _ => ?_) <;> cbv) | (refine Need.mk ?_ ?_; rotate_left; cbv) | (refine RetThen.mk [] [] ?_; cbv))
  all_goals (try subst_vars)
  all_goals (try simp only [O.h, natTo, natPred, emp] at *)
  all_goals (try subst_vars)
  all_goals (repeat' apply And.intro)
  all_goals first
    | exact True.intro
    | exact WkR.refl _
    | lia
    | (simp_all [hasP]; done)
    | (simp_all [hasP] <;> lia)
    | (grind [hasP])
    | skip
theorem getIdx_fn (O : Opq) (d : Doc) (p : ByteArray) (hd : d.length ≤ 1099511627776) : Fn prog 73 [.sl false 0 false 6 (O.o Doc.enc d), .fn 74 [] [.ptr 0 0]] [.box [.str p]] [.int .i64 (O.o getI d p)] [.box [.str p]] := by
  have hlen : (O.o Doc.enc d).length = d.length := by rw [O.h, Doc.enc_len]
  obtain ⟨N, hN⟩ : ∃ N : Nat, N = d.length := ⟨_, rfl⟩
  refine go (fn := Go.Proofs.Tryd.f73) (n := 17) (rv := [ResultVar.tmp 4]) rfl (by decide) rfl (by decide +kernel) rfl rfl (by simp) fun F L C => ?_
  cbv
  (repeat' first | (refine Named.i64 ?_ fun _ _ => ?_; (focus lia); cbv) | (refine Named.len fun _ _ hq => ?_; (try simp only [List.length_append, List.length_take, List.length_drop, List.length_replicate, List.length_set] at hq); cbv) | (refine Named.mk fun _ _ => ?_; cbv) | (refine Br.t ?_ ?_; (focus first | assumption | lia); cbv) | (refine Br.f ?_ ?_; (focus first | assumption | lia); cbv) | (refine Br.mk (fun _ => ?_) (fun _ => ?_) <;> cbv) | (refine Need.mk ?_ ?_; rotate_left; cbv) | (refine RetThen.mk [] [] ?_; cbv))
  refine LoopThen.mk (C.loopAt (ι := Nat) [(4, 5), (8, 18)] (fun k => [(4, .int .i64 0), (8, .int .i64 k)]) (fun _ => [(0, .box [.str p])])
    (fun k => k ≤ d.length ∧ ∀ (j : Nat) y, j < k → d[j]? = some y → hasP p y = false) (fun k => N - k) (by decide +kernel) (Start.mk 0 [] [] (by simp) (by cbv; (repeat' apply And.intro) <;> first | exact True.intro | exact WkR.refl _ | rfl | lia)) ?_)
  rintro k ⟨h1, h2⟩
  cbv
  (repeat' first | (refine Named.i64 ?_ fun _ _ => ?_; (focus lia); cbv) | (refine Ex.map O Field.enc rfl ?_ fun _ _ => ?_; rotate_left; cbv) | (refine CallThen.bool (C.fn (hasP_fn O p ⟨_, _, _, _, _, _⟩)) (fun _ => ?_) (fun _ => ?_) <;> cbv) | (refine Back.up [] [] ?_ ?_ fun _ _ => ?_; rotate_left 2; cbv) | (refine Named.len fun _ _ hq => ?_; (try simp only [List.length_append, List.length_take, List.length_drop, List.length_replicate, List.length_set] at hq); cbv) | (refine Named.mk fun _ _ => ?_; cbv) | (refine Br.t ?_ ?_; (focus first | assumption | lia); cbv) | (refine Br.f ?_ ?_; (focus first | assumption | lia); cbv) | (refine Br.mk (fun _ => ?_) (fun _ => ?_) <;> cbv) | (refine Need.mk ?_ ?_; rotate_left; cbv) | (refine RetThen.mk [] [] ?_; cbv))
  all_goals (try subst_vars)
  all_goals (try simp only [O.h, natTo, natPred, emp] at *)
  all_goals (try subst_vars)
  all_goals (repeat' apply And.intro)
  all_goals first
    | exact True.intro
    | exact WkR.refl _
    | lia
    | exact findI_at (k := k) (by assumption) (by assumption) h2
    | exact findI_none fun j y hj => h2 j y (by lia)
    | exact srch_step h2 (by assumption) (by assumption)
theorem get_fn (O : Opq) (d : Doc) (p : ByteArray) (hd : d.length ≤ 1099511627776) : Fn prog 24 [.sl false 0 false 6 (O.o Doc.enc d), .str p] [] [.agg (Val.enc (O.o getV d p)), .bool (O.o getB d p)] [] := by
  have hi := getB_iff (d := d) (p := p)
  have hl : 0 ≤ getI d p → getI d p < d.length := fun h => by
    obtain ⟨x, hx, _⟩ := findI_lt h
    have := (List.getElem?_eq_some_iff.1 hx).1
    unfold getI at *; omega
  have e1 : O.o getI d p = getI d p := congrFun (congrFun (O.h getI) d) p
  refine go (fn := Go.Proofs.Tryd.f24) (n := 16) (rv := [ResultVar.cell 4 35, ResultVar.tmp 5]) rfl (by decide) rfl (by decide +kernel) rfl rfl (by simp) fun F L C => ?_
  cbv
  (repeat' first | (refine Named.i64 ?_ fun _ _ => ?_; (focus lia); cbv) | (refine CallThen.mk _ _ (C.fn (getIdx_fn O d p hd)) ?_; cbv) | (refine Ex.map O Field.enc rfl ?_ fun _ _ => ?_; rotate_left; cbv) | (refine Named.len fun _ _ hq => ?_; (try simp only [List.length_append, List.length_take, List.length_drop, List.length_replicate, List.length_set] at hq); cbv) | (refine Named.mk fun _ _ => ?_; cbv) | (refine Br.t ?_ ?_; (focus first | assumption | lia); cbv) | (refine Br.f ?_ ?_; (focus first | assumption | lia); cbv) | (refine Br.mk (fun _ => ?_) (fun _ => ?_) <;> cbv) | (refine Need.mk ?_ ?_; rotate_left; cbv) | (refine RetThen.mk [] [] ?_; cbv))
  all_goals (try subst_vars)
  all_goals (try simp only [O.h, natTo, natPred, emp] at *)
  all_goals (try subst_vars)
  all_goals (repeat' apply And.intro)
  all_goals first
    | exact True.intro
    | lia
    | (rw [getV_none (by assumption)]; rfl)
    | (rw [getV_at (by lia) (by assumption)])
    | (cases hb : getB d p <;> simp_all <;> lia)
    | trace_state
end Go.Sym
