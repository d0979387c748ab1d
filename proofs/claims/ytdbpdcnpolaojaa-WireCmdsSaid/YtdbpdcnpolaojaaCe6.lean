/- Cells are made. -/
import Derived.Test.YtdbpdcnpolaojaaBase
import Derived.Test.YtdbpdcnpolaojaaCeB
import Derived.Test.YtdbpdcnpolaojaaSymJoined3
set_option linter.all false
set_option linter.unusedVariables false
set_option linter.unusedSimpArgs false
namespace Go.Sym
open Go Go.Proofs.Try
set_option maxRecDepth 100000
theorem cnum_fn (O : Opq) (n : Int) : Fn prog 18 [.int .i64 n] [] [.agg ((numC n).en O)] [] := by
  have h0 : O.o Cels.enc [] = [] := by rw [O.h, Cels.enc]
  refine go (fn := Go.Proofs.Try.f18) (n := 4) (rv := [ResultVar.cell 2 39]) rfl (by decide) rfl (by decide +kernel) rfl rfl (by simp) fun F L C => ?_
  cbv
  (repeat' first | (refine Named.i64 ?_ fun _ _ => ?_; (focus lia); cbv) | (refine Named.len fun _ _ hq => ?_; (try simp only [List.length_append, List.length_take, List.length_drop, List.length_replicate, List.length_set] at hq); cbv) | (refine Named.mk fun _ _ => ?_; cbv) | (refine Br.t ?_ ?_; (focus first | assumption | lia); cbv) | (refine Br.f ?_ ?_; (focus first | assumption | lia); cbv) | (refine Br.mk (fun _ => ?_) (fun _ => ?_) <;> cbv) | (refine Need.mk ?_ ?_; rotate_left; cbv) | (refine RetThen.mk [] [] ?_; cbv))
  exact ⟨h0, trivial⟩
theorem ctext_fn (O : Opq) (s : ByteArray) : Fn prog 19 [.str s] [] [.agg ((textC s).en O)] [] := by
  have h0 : O.o Cels.enc [] = [] := by rw [O.h, Cels.enc]
  refine go (fn := Go.Proofs.Try.f19) (n := 4) (rv := [ResultVar.cell 2 39]) rfl (by decide) rfl (by decide +kernel) rfl rfl (by simp) fun F L C => ?_
  cbv
  (repeat' first | (refine Named.i64 ?_ fun _ _ => ?_; (focus lia); cbv) | (refine Named.len fun _ _ hq => ?_; (try simp only [List.length_append, List.length_take, List.length_drop, List.length_replicate, List.length_set] at hq); cbv) | (refine Named.mk fun _ _ => ?_; cbv) | (refine Br.t ?_ ?_; (focus first | assumption | lia); cbv) | (refine Br.f ?_ ?_; (focus first | assumption | lia); cbv) | (refine Br.mk (fun _ => ?_) (fun _ => ?_) <;> cbv) | (refine Need.mk ?_ ?_; rotate_left; cbv) | (refine RetThen.mk [] [] ?_; cbv))
  exact ⟨h0, trivial⟩
theorem clist0_fn (r : List (List PV)) (hl : r.length ≤ 1099511627) : Fn prog 17 [.sl true 0 false 4 r] [] [.agg [.int .i64 3, .int .i64 0, .str ByteArray.empty, .sl false 0 false 4 r]] [] := by
  refine go (fn := Go.Proofs.Try.f17) (n := 6) (rv := [ResultVar.cell 2 39]) rfl (by decide) rfl (by decide +kernel) rfl rfl (by simp) fun F L C => ?_
  cbv
  (repeat' first | (refine Named.i64 ?_ fun _ _ => ?_; (focus lia); cbv) | (refine RetThen.mk [] [448] ?_; cbv) | (refine Named.len fun _ _ hq => ?_; (try simp only [List.length_append, List.length_take, List.length_drop, List.length_replicate, List.length_set] at hq); cbv) | (refine Named.mk fun _ _ => ?_; cbv) | (refine Br.t ?_ ?_; (focus first | assumption | lia); cbv) | (refine Br.f ?_ ?_; (focus first | assumption | lia); cbv) | (refine Br.mk (fun _ => ?_) (fun _ => ?_) <;> cbv) | (refine Need.mk ?_ ?_; rotate_left; cbv) | (refine RetThen.mk [] [] ?_; cbv))
  · refine ⟨.of_eq ?_, trivial⟩
    subst_vars; rfl
  · have : ([] : List (List PV)).length = 0 := rfl
    lia
theorem clist_fn (nn : Nat) (full : Bool) (r : List (List PV)) (hl : r.length ≤ 1099511627) : Fn prog 17 [.sl true nn full 4 r] [] [.agg [.int .i64 3, .int .i64 0, .str ByteArray.empty, .sl false 0 false 4 r]] [] :=
  (clist0_fn r hl).wkA (.cons (.bor rfl (.refl _)) .nil)
theorem clistN_fn : Fn prog 17 [.nils] [] [.agg [.int .i64 3, .int .i64 0, .str ByteArray.empty, .sl false 0 false 4 []]] [] := by
  refine Fn.wkA (args := [.sl false 0 false 4 []]) ?_ (.cons (.wk (.nil _ _)) .nil)
  exact (clist0_fn [] (by simp)).wkA (.cons (.lend rfl) .nil)
end Go.Sym
