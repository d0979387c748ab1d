/- Cells are made. -/
import Derived.Test.YtfenjmhhggekaaaDoorPa8
import Derived.Test.YtfenjmhhggekaaaDoorCeB
import Derived.Test.YtfenjmhhggekaaaDoorSymJoined3
set_option linter.all false
set_option linter.unusedVariables false
set_option linter.unusedSimpArgs false
namespace Go.Sym
open Go Go.Proofs.Tryd
set_option maxRecDepth 100000
theorem cnum_fn (O : Opq) (n : Int) : Fn prog 119 [.int .i64 n] [] [.agg ((numC n).en O)] [] := by
  have h0 : O.o Cels.enc [] = [] := by rw [O.h, Cels.enc]
  refine go (fn := Go.Proofs.Tryd.f119) (n := 4) (rv := [ResultVar.cell 2 64]) rfl (by decide) rfl (by decide +kernel) rfl rfl (by simp) fun F L C => ?_
  cbv
  (repeat' first | (refine Named.i64 ?_ fun _ _ => ?_; (focus lia); cbv) | (refine Named.len fun _ _ hq => ?_; (try simp only [List.length_append, List.length_take, List.length_drop, List.length_replicate, List.length_set] at hq); cbv) | (refine Named.mk fun _ _ => ?_; cbv) | (refine Br.t ?_ ?_; (focus first | assumption | lia); cbv) | (refine Br.f ?_ ?_; (focus first | assumption | lia); cbv) | (refine Br.mk (fun _ => ?_) (fun _ => ?_) <;> cbv) | (refine Need.mk ?_ ?_; rotate_left; cbv) | (refine RetThen.mk [] [] ?_; cbv))
  exact ⟨h0, trivial⟩
theorem ctext_fn (O : Opq) (s : ByteArray) : Fn prog 89 [.str s] [] [.agg ((textC s).en O)] [] := by
  have h0 : O.o Cels.enc [] = [] := by rw [O.h, Cels.enc]
  refine go (fn := Go.Proofs.Tryd.f89) (n := 4) (rv := [ResultVar.cell 2 64]) rfl (by decide) rfl (by decide +kernel) rfl rfl (by simp) fun F L C => ?_
  cbv
  (repeat' first | (refine Named.i64 ?_ fun _ _ => ?_; (focus lia); cbv) | (refine Named.len fun _ _ hq => ?_; (try simp only [List.length_append, List.length_take, List.length_drop, List.length_replicate, List.length_set] at hq); cbv) | (refine Named.mk fun _ _ => ?_; cbv) | (refine Br.t ?_ ?_; (focus first | assumption | lia); cbv) | (refine Br.f ?_ ?_; (focus first | assumption | lia); cbv) | (refine Br.mk (fun _ => ?_) (fun _ => ?_) <;> cbv) | (refine Need.mk ?_ ?_; rotate_left; cbv) | (refine RetThen.mk [] [] ?_; cbv))
  exact ⟨h0, trivial⟩
theorem clist0_fn (r : List (List PV)) (hl : r.length ≤ 1099511627) : Fn prog 88 [.sl true 0 false 4 r] [] [.agg [.int .i64 3, .int .i64 0, .str ByteArray.empty, .sl false 0 false 4 r]] [] := by
  refine go (fn := Go.Proofs.Tryd.f88) (n := 6) (rv := [ResultVar.cell 2 64]) rfl (by decide) rfl (by decide +kernel) rfl rfl (by simp) fun F L C => ?_
  cbv
  (repeat' first | (refine Named.i64 ?_ fun _ _ => ?_; (focus lia); cbv) | (refine RetThen.mk [] [448] ?_; cbv) | (refine Named.len fun _ _ hq => ?_; (try simp only [List.length_append, List.length_take, List.length_drop, List.length_replicate, List.length_set] at hq); cbv) | (refine Named.mk fun _ _ => ?_; cbv) | (refine Br.t ?_ ?_; (focus first | assumption | lia); cbv) | (refine Br.f ?_ ?_; (focus first | assumption | lia); cbv) | (refine Br.mk (fun _ => ?_) (fun _ => ?_) <;> cbv) | (refine Need.mk ?_ ?_; rotate_left; cbv) | (refine RetThen.mk [] [] ?_; cbv))
  · refine ⟨.of_eq ?_, trivial⟩
    subst_vars; rfl
  · have : ([] : List (List PV)).length = 0 := rfl
    lia
theorem clist_fn (nn : Nat) (full : Bool) (r : List (List PV)) (hl : r.length ≤ 1099511627) : Fn prog 88 [.sl true nn full 4 r] [] [.agg [.int .i64 3, .int .i64 0, .str ByteArray.empty, .sl false 0 false 4 r]] [] :=
  (clist0_fn r hl).wkA (.cons (.bor rfl (.refl _)) .nil)
theorem clistN_fn : Fn prog 88 [.nils] [] [.agg [.int .i64 3, .int .i64 0, .str ByteArray.empty, .sl false 0 false 4 []]] [] := by
  refine Fn.wkA (args := [.sl false 0 false 4 []]) ?_ (.cons (.wk (.nil _ _)) .nil)
  exact (clist0_fn [] (by simp)).wkA (.cons (.lend rfl) .nil)
theorem value_fn (O : Opq) (v : Val) : Fn prog 90 [.agg v.enc] [] [.agg ((O.o valC v).en O)] [] := by
  have h1 : v.kind = 1 → O.o valC v = numC v.num := fun h => by rw [O.h, valC, if_pos h]
  have h2 : v.kind = 2 → O.o valC v = textC v.text := fun h => by rw [O.h, valC, if_neg (by omega), if_pos h]
  have h3 : v.kind ≠ 1 → v.kind ≠ 2 → O.o valC v = listC [numC v.re, numC v.im] := fun h g => by rw [O.h, valC, if_neg h, if_neg g]
  obtain ⟨w, hw⟩ : ∃ w, w = O.o valC v := ⟨_, rfl⟩
  rw [← hw] at h1 h2 h3 ⊢
  refine go (fn := Go.Proofs.Tryd.f90) (n := 24) (rv := [ResultVar.cell 2 64]) rfl (by decide) rfl (by decide +kernel) rfl rfl (by simp) fun F L C => ?_
  cbv
  (repeat' first | (refine Named.i64 ?_ fun _ _ => ?_; (focus lia); cbv) | (refine CallThen.mk _ _ (C.fn (cnum_fn O _)) ?_; cbv) | (refine CallThen.mk _ _ (C.fn (ctext_fn O _)) ?_; cbv) | (refine CallThen.mk _ _ (C.fn (clist_fn _ _ _ (by simp))) ?_; cbv) | (refine Named.len fun _ _ hq => ?_; (try simp only [List.length_append, List.length_take, List.length_drop, List.length_replicate, List.length_set] at hq); cbv) | (refine Named.mk fun _ _ => ?_; cbv) | (refine Br.t ?_ ?_; (focus first | assumption | lia); cbv) | (refine Br.f ?_ ?_; (focus first | assumption | lia); cbv) | (refine Br.mk (fun _ => ?_) (fun _ => ?_) <;> cbv) | (refine Need.mk ?_ ?_; rotate_left; cbv) | (refine RetThen.mk [] [] ?_; cbv))
  · rename_i h; rw [h1 h]; exact ⟨rfl, rfl, rfl, .refl _, trivial⟩
  · rename_i h; rw [h2 h]; exact ⟨rfl, rfl, rfl, .refl _, trivial⟩
  · rename_i g h; rw [h3 g h]
    refine ⟨rfl, rfl, rfl, .of_eq ?_, trivial⟩
    simp only [O.h]
    simp only [listC, numC, Cel.list, Cels.enc, Cel.enc, O.h]
    rfl
theorem valueOf_fn (O : Opq) (c : Cel) : Fn prog 80 [.agg (c.en O)] [] [.agg (O.o valOf c).enc] [] := by
  have hlen := Cels.en_len O c.list
  have h1 : c.kind = 1 → O.o valOf c = numV c.num := fun h => by rw [O.h, valOf, if_pos h]
  have h2 : c.kind = 2 → O.o valOf c = textV c.text := fun h => by rw [O.h, valOf, if_neg (by omega), if_pos h]
  by_cases hl : c.list.length = 2
  · obtain ⟨a, b, hab⟩ := list2 hl
    have ha : c.list[0]? = some a := by rw [hab]; rfl
    have hb : c.list[1]? = some b := by rw [hab]; rfl
    have h3 : c.kind ≠ 1 → c.kind ≠ 2 → a.kind = 1 → b.kind = 1 → O.o valOf c = pointV a.num b.num := fun h g i j => by rw [O.h, valOf, if_neg h, if_neg g, hab]; simp only [i, j, and_self, if_true]
    have h4 : c.kind ≠ 1 → c.kind ≠ 2 → ¬ (a.kind = 1 ∧ b.kind = 1) → O.o valOf c = noV := fun h g i => by rw [O.h, valOf, if_neg h, if_neg g, hab]; simp only [if_neg i]
    obtain ⟨w, hw⟩ : ∃ w, w = O.o valOf c := ⟨_, rfl⟩
    rw [← hw] at h1 h2 h3 h4 ⊢
    obtain ⟨p, hp⟩ : ∃ p, p = c.list := ⟨_, rfl⟩
    obtain ⟨k, n, t, l⟩ := c
    replace hp : p = l := hp
    subst hp
    simp only [Cel.kind, Cel.num, Cel.text, Cel.list] at h1 h2 h3 h4 ha hb hl hlen
    clear hw
    refine go (fn := Go.Proofs.Tryd.f80) (n := 49) (rv := [ResultVar.cell 2 35]) rfl (by decide) rfl (by decide +kernel) rfl rfl (by simp) fun F L C => ?_
    cbv
    (repeat' first | (refine Named.i64 ?_ fun _ _ => ?_; (focus lia); cbv) | (refine Ex.cel O ha ?_ ?_; (focus lia); cbv) | (refine Ex.cel O hb ?_ ?_; (focus lia); cbv) | (refine CallThen.mk _ _ (C.fn (num_fn O _)) ?_; cbv) | (refine CallThen.mk _ _ (C.fn (text_fn O _)) ?_; cbv) | (refine CallThen.mk _ _ (C.fn (point_fn O _ _)) ?_; cbv) | (refine Named.len fun _ _ hq => ?_; (try simp only [List.length_append, List.length_take, List.length_drop, List.length_replicate, List.length_set] at hq); cbv) | (refine Named.mk fun _ _ => ?_; cbv) | (refine Br.t ?_ ?_; (focus first | assumption | lia); cbv) | (refine Br.f ?_ ?_; (focus first | assumption | lia); cbv) | (refine Br.mk (fun _ => ?_) (fun _ => ?_) <;> cbv) | (refine Need.mk ?_ ?_; rotate_left; cbv) | (refine RetThen.mk [] [] ?_; cbv))
    all_goals first
      | lia
      | (rw [h1 (by assumption)]; exact ⟨rfl, rfl, rfl, rfl, rfl, trivial⟩)
      | (rw [h2 (by assumption)]; exact ⟨rfl, rfl, rfl, rfl, rfl, trivial⟩)
      | (rw [h3 (by assumption) (by assumption) (by assumption) (by assumption)]; exact ⟨rfl, rfl, rfl, rfl, rfl, trivial⟩)
      | (rw [h4 (by assumption) (by assumption) (by lia)]; exact ⟨rfl, rfl, rfl, rfl, rfl, trivial⟩)
      | trace_state
  · have h4 : c.kind ≠ 1 → c.kind ≠ 2 → O.o valOf c = noV := fun h g => by
      rw [O.h, valOf, if_neg h, if_neg g]
      split
      · rename_i e; rw [e] at hl; exact absurd rfl hl
      · rfl
    obtain ⟨w, hw⟩ : ∃ w, w = O.o valOf c := ⟨_, rfl⟩
    rw [← hw] at h1 h2 h4 ⊢
    obtain ⟨k, n, t, l⟩ := c
    simp only [Cel.kind, Cel.num, Cel.text, Cel.list] at h1 h2 h4 hl hlen
    clear hw
    refine go (fn := Go.Proofs.Tryd.f80) (n := 49) (rv := [ResultVar.cell 2 35]) rfl (by decide) rfl (by decide +kernel) rfl rfl (by simp) fun F L C => ?_
    cbv
    (repeat' first | (refine Named.i64 ?_ fun _ _ => ?_; (focus lia); cbv) | (refine CallThen.mk _ _ (C.fn (num_fn O _)) ?_; cbv) | (refine CallThen.mk _ _ (C.fn (text_fn O _)) ?_; cbv) | (refine Named.len fun _ _ hq => ?_; (try simp only [List.length_append, List.length_take, List.length_drop, List.length_replicate, List.length_set] at hq); cbv) | (refine Named.mk fun _ _ => ?_; cbv) | (refine Br.t ?_ ?_; (focus first | assumption | lia); cbv) | (refine Br.f ?_ ?_; (focus first | assumption | lia); cbv) | (refine Br.mk (fun _ => ?_) (fun _ => ?_) <;> cbv) | (refine Need.mk ?_ ?_; rotate_left; cbv) | (refine RetThen.mk [] [] ?_; cbv))
    all_goals first
      | lia
      | (rw [h1 (by assumption)]; exact ⟨rfl, rfl, rfl, rfl, rfl, trivial⟩)
      | (rw [h2 (by assumption)]; exact ⟨rfl, rfl, rfl, rfl, rfl, trivial⟩)
      | (rw [h4 (by assumption) (by assumption)]; exact ⟨rfl, rfl, rfl, rfl, rfl, trivial⟩)
      | trace_state
end Go.Sym
