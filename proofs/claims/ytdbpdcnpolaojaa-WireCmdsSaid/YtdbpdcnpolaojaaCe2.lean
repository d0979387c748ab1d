/- How deep a cell is. -/
import Derived.Test.YtdbpdcnpolaojaaBase
import Derived.Test.YtdbpdcnpolaojaaSymJoined3
import Derived.Test.YtdbpdcnpolaojaaCeA
set_option linter.all false
set_option linter.unusedVariables false
set_option linter.unusedSimpArgs false
namespace Go.Sym
open Go Go.Proofs.Try
set_option maxRecDepth 100000
theorem deep_fn (O : Opq) : ∀ (n : Nat) (c : Cel), n ≤ 100 → (∀ e : Cel, e.size ≤ c.size → e.list.length ≤ 1099511627776) → Fn prog 40 [.agg c.enc, .int .i64 n] [] [.bool (O.o (deepN n) c)] []
  | 0, .mk k m t l, _, _ => by
    have hq : O.o (deepN 0) (.mk k m t l) = true := by rw [O.h]; rfl
    obtain ⟨r, er⟩ : ∃ r, r = Cels.enc l := ⟨_, rfl⟩
    rw [hq, show Cel.enc (.mk k m t l) = [.int .i64 k, .int .i64 m, .str t, .sl false 0 false 4 r] by rw [Cel.enc, er]]
    refine go (fn := Go.Proofs.Try.f40) (n := 19) (rv := [ResultVar.tmp 4]) rfl (by decide) rfl (by decide +kernel) rfl rfl (by simp) fun F L C => ?_
    cbv
    (repeat' first | (refine Named.i64 ?_ fun _ _ => ?_; (focus lia); cbv) | (refine Named.len fun _ _ hq => ?_; (try simp only [List.length_append, List.length_take, List.length_drop, List.length_replicate, List.length_set] at hq); cbv) | (refine Named.mk fun _ _ => ?_; cbv) | (refine Br.t ?_ ?_; (focus first | assumption | lia); cbv) | (refine Br.f ?_ ?_; (focus first | assumption | lia); cbv) | (refine Br.mk (fun _ => ?_) (fun _ => ?_) <;> cbv) | (refine Need.mk ?_ ?_; rotate_left; cbv) | (refine RetThen.mk [] [] ?_; cbv))
  | n + 1, .mk k m t l, hn, hb => by
    have hl1 := Cels.enc_len l
    have ih := fun (e : Cel) (he : e ∈ l) => deep_fn O n e (by omega) fun g hg => hb g (by have := Cels.size_mem he; rw [Cel.size]; omega)
    have hll : l.length ≤ 1099511627776 := hb (.mk k m t l) (Nat.le_refl _)
    have hq : O.o (deepN (n + 1)) (.mk k m t l) = l.any (deepN n) := by rw [O.h]; rfl
    obtain ⟨Q, eQ⟩ : ∃ Q, Q = l.any (deepN n) := ⟨_, rfl⟩
    rw [hq, ← eQ]
    obtain ⟨r, er⟩ : ∃ r, r = Cels.enc l := ⟨_, rfl⟩
    rw [show Cel.enc (.mk k m t l) = [.int .i64 k, .int .i64 m, .str t, .sl false 0 false 4 r] by rw [Cel.enc, er]]
    rw [← er] at hl1
    obtain ⟨N, hN⟩ : ∃ N : Nat, N = l.length := ⟨_, rfl⟩
    obtain ⟨z, hz⟩ : ∃ z : Nat, z = 0 := ⟨_, rfl⟩
    obtain ⟨v, hv⟩ : ∃ v : Int, v = ((n + 1 : Nat) : Int) := ⟨_, rfl⟩
    rw [← hv]
    refine go (fn := Go.Proofs.Try.f40) (n := 19) (rv := [ResultVar.tmp 4]) rfl (by decide) rfl (by decide +kernel) rfl rfl (by simp) fun F L C => ?_
    cbv
    (repeat' first | (refine Named.i64 ?_ fun _ _ => ?_; (focus lia); cbv) | (refine Named.len fun _ _ hq => ?_; (try simp only [List.length_append, List.length_take, List.length_drop, List.length_replicate, List.length_set] at hq); cbv) | (refine Named.mk fun _ _ => ?_; cbv) | (refine Br.t ?_ ?_; (focus first | assumption | lia); cbv) | (refine Br.f ?_ ?_; (focus first | assumption | lia); cbv) | (refine Br.mk (fun _ => ?_) (fun _ => ?_) <;> cbv) | (refine Need.mk ?_ ?_; rotate_left; cbv) | (refine RetThen.mk [] [] ?_; cbv))
    all_goals try (clear ih hb er eQ; lia)
    refine LoopThen.mk (C.loopAt (ι := Nat) [(4, 4), (6, 6), (12, 20)] (fun i => [(4, .bool false), (12, .int .i64 i)]) (fun _ => [(256, .box [.int .i64 k, .int .i64 m, .str t, .sl false 0 false 4 r])])
      (fun i => i ≤ l.length ∧ ∀ (j : Nat) y, j < i → l[j]? = some y → deepN n y = false) (fun i => N - i) (by decide +kernel) (Start.mk z [] [] ⟨by lia, fun j y hj => by omega⟩ (by cbv; (repeat' apply And.intro) <;> first | exact True.intro | exact WkR.refl _ | rfl | lia)) ?_)
    intro i g
    cbv
    have g1 : i ≤ l.length := g.1
    have g2 := g.2
    clear g
    by_cases hi : i < l.length
    · obtain ⟨x, hx⟩ : ∃ x, l[i]? = some x := ⟨l[i], by simp [hi]⟩
      have rx : r[i]? = some x.enc := by rw [er, Cels.enc_map, List.getElem?_map, hx]; rfl
      have hc := ih x (List.mem_of_getElem? hx)
      have hyes : O.o (deepN n) x = true → Q = true := fun h => by rw [eQ, List.any_eq_true]; exact ⟨x, List.mem_of_getElem? hx, by rwa [O.h] at h⟩
      have hst : O.o (deepN n) x = false → ∀ (j : Nat) y, j < i + 1 → l[j]? = some y → deepN n y = false := fun h j y hj hy => by
        by_cases ej : j = i
        · subst ej; rw [hx] at hy; cases hy; rwa [O.h] at h
        · exact g2 j y (by omega) hy
      have hc := fun {w : Int} (hw : w = n) => (show Fn prog 40 [.agg x.enc, .int .i64 w] [] [.bool (O.o (deepN n) x)] [] by rw [hw]; exact hc)
      obtain ⟨B, eB⟩ : ∃ B, B = O.o (deepN n) x := ⟨_, rfl⟩
      rw [← eB] at hc hyes hst
      obtain ⟨kx, mx, tx, lx⟩ := x
      obtain ⟨sx, esx⟩ : ∃ e, e = Cels.enc lx := ⟨_, rfl⟩
      rw [show Cel.enc (.mk kx mx tx lx) = [.int .i64 kx, .int .i64 mx, .str tx, .sl false 0 false 4 sx] by rw [Cel.enc, esx]] at rx hc
      clear ih hb er g2 eQ
      (repeat' first | (refine Named.i64 ?_ fun _ _ => ?_; (focus lia); cbv) | (refine Ex.at [.int .i64 kx, .int .i64 mx, .str tx, .sl false 0 false 4 sx] ⟨by clear rx hst hyes hx hc; lia, rx⟩ ?_; cbv) | (refine CallThen.bool (C.fn (hc (by clear rx hst hyes hx; lia))) (fun _ => ?_) (fun _ => ?_) <;> cbv) | (refine Back.up [] [] ?_ ?_ fun _ _ => ?_; rotate_left 2; cbv; refine And.intro ?_ ?_) | (refine Named.len fun _ _ hq => ?_; (try simp only [List.length_append, List.length_take, List.length_drop, List.length_replicate, List.length_set] at hq); cbv) | (refine Named.mk fun _ _ => ?_; cbv) | (refine Br.t ?_ ?_; (focus first | assumption | lia); cbv) | (refine Br.f ?_ ?_; (focus first | assumption | lia); cbv) | (refine Br.mk (fun _ => ?_) (fun _ => ?_) <;> cbv) | (refine Need.mk ?_ ?_; rotate_left; cbv) | (refine RetThen.mk [] [] ?_; cbv))
      all_goals (repeat' apply And.intro)
      all_goals try first
        | exact True.intro
        | exact WkR.refl _
        | (clear rx hst hyes hx hc; lia)
      all_goals first
        | exact hyes (by assumption)
        | exact hst (by assumption)
        | trace_state
    · (repeat' first | (refine Named.i64 ?_ fun _ _ => ?_; (focus lia); cbv) | (refine Named.len fun _ _ hq => ?_; (try simp only [List.length_append, List.length_take, List.length_drop, List.length_replicate, List.length_set] at hq); cbv) | (refine Named.mk fun _ _ => ?_; cbv) | (refine Br.t ?_ ?_; (focus first | assumption | lia); cbv) | (refine Br.f ?_ ?_; (focus first | assumption | lia); cbv) | (refine Br.mk (fun _ => ?_) (fun _ => ?_) <;> cbv) | (refine Need.mk ?_ ?_; rotate_left; cbv) | (refine RetThen.mk [] [] ?_; cbv))
      all_goals try (clear ih hb er g2 eQ; lia)
      all_goals
        refine ⟨?_, trivial⟩
        rw [eQ, List.any_eq_false]
        intro x hx
        obtain ⟨j, hj, rfl⟩ := List.getElem_of_mem hx
        simpa using g2 j _ (by omega) (by simp)
end Go.Sym
