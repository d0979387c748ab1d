/- A cell is checked. -/
import Derived.Test.YtdbpdcnpolaojaaCe2
import Derived.Test.YtdbpdcnpolaojaaCe3
import Derived.Test.YtdbpdcnpolaojaaCe4
set_option linter.all false
set_option linter.unusedVariables false
set_option linter.unusedSimpArgs false
namespace Go.Sym
open Go Go.Proofs.Try
set_option maxRecDepth 100000
theorem ccheck_fn (O : Opq) (c : Cel) (h : c.size ≤ 1099511627776) : Fn prog 33 [.agg c.enc] [] [.int .i64 (O.o celErr c)] [] := by
  have hb : ∀ e : Cel, e.size ≤ c.size → e.list.length ≤ 1099511627776 := fun e he => Nat.le_trans (Cel.len_size e) (by omega)
  have h1 := deep_fn O 12 c (by omega) hb
  have h2 := pure_fn O c.size c (Nat.le_refl _) hb
  have h3 := count_fnC O c.size c (Nat.le_refl _) hb 4096 (by omega) (by omega)
  have hE : O.o celErr c = if O.o (deepN 12) c = true then 13 else if O.o pureC c = false then 1 else if O.o countC c 4096 < 0 then 3 else 0 := by simp only [O.h]; rfl
  obtain ⟨a, ea⟩ : ∃ a, a = O.o (deepN 12) c := ⟨_, rfl⟩
  obtain ⟨b, eb⟩ : ∃ a, a = O.o pureC c := ⟨_, rfl⟩
  obtain ⟨w, ew⟩ : ∃ a, a = O.o countC c 4096 := ⟨_, rfl⟩
  obtain ⟨Q, eQ⟩ : ∃ a, a = O.o celErr c := ⟨_, rfl⟩
  rw [← ea] at h1 hE
  rw [← eb] at h2 hE
  rw [← ew] at h3 hE
  rw [← eQ] at hE ⊢
  clear hb h ea eb ew eQ
  obtain ⟨k, m, t, l⟩ := c
  obtain ⟨r, er⟩ : ∃ r, r = Cels.enc l := ⟨_, rfl⟩
  rw [show Cel.enc (.mk k m t l) = [.int .i64 k, .int .i64 m, .str t, .sl false 0 false 4 r] by rw [Cel.enc, er]] at h1 h2 h3 ⊢
  cases a <;> cases b
  all_goals
    simp only [if_true, if_false, Bool.false_eq_true, Bool.true_eq_false] at hE
    refine go (fn := Go.Proofs.Try.f33) (n := 13) (rv := [ResultVar.tmp 2]) rfl (by decide) rfl (by decide +kernel) rfl rfl (by simp) fun F L C => ?_
    cbv
    (repeat' first | (refine Named.i64 ?_ fun _ _ => ?_; (focus lia); cbv) | (refine CallThen.mk _ _ (C.fn (h1)) ?_; cbv) | (refine CallThen.mk _ _ (C.fn (h2)) ?_; cbv) | (refine CallThen.mk _ _ (C.fn (h3)) ?_; cbv) | (refine Named.len fun _ _ hq => ?_; (try simp only [List.length_append, List.length_take, List.length_drop, List.length_replicate, List.length_set] at hq); cbv) | (refine Named.mk fun _ _ => ?_; cbv) | (refine Br.t ?_ ?_; (focus first | assumption | lia); cbv) | (refine Br.f ?_ ?_; (focus first | assumption | lia); cbv) | (refine Br.mk (fun _ => ?_) (fun _ => ?_) <;> cbv) | (refine Need.mk ?_ ?_; rotate_left; cbv) | (refine RetThen.mk [] [] ?_; cbv))
    all_goals first
      | (refine ⟨?_, trivial⟩; rw [hE]; done)
      | (refine ⟨?_, trivial⟩; rw [hE, if_pos (by assumption)]; done)
      | (refine ⟨?_, trivial⟩; rw [hE, if_neg (by assumption)]; done)
      | trace_state
end Go.Sym
