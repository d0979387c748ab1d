/- Which cells are alike, by the document. -/
import Derived.Test.YtfenjmhhggekaaaDoorPa8
import Derived.Test.YtfenjmhhggekaaaDoorCeA
set_option linter.all false
set_option linter.unusedVariables false
set_option linter.unusedSimpArgs false
namespace Go.Sym
open Go Go.Proofs.Tryd
set_option maxRecDepth 100000
theorem rsameCel_fn (O : Opq) : ∀ (n : Nat) (c d : Cel), c.size ≤ n → (∀ e : Cel, e.size ≤ n → e.list.length ≤ 1099511627776) → Fn prog 52 [.agg c.enc, .agg d.enc] [] [.bool (O.o sameCel c d)] []
  | 0, .mk k m t l, d, h, _ => by simp [Cel.size] at h
  | n + 1, .mk k m t l, .mk k' m' t' l', h, hb => by
    have hl1 := Cels.enc_len l
    have hl2 := Cels.enc_len l'
    have hsz : ∀ e ∈ l, e.size ≤ n := fun e he => by have := Cels.size_mem he; rw [Cel.size] at h; omega
    have ih := fun (e f : Cel) (he : e ∈ l) => rsameCel_fn O n e f (hsz e he) fun g hg => hb g (by omega)
    have hne : Cel.mk k m t l ≠ .mk k' m' t' l' → O.o sameCel (.mk k m t l) (.mk k' m' t' l') = false := fun h => by simp only [O.h]; exact sameCel_no h
    have heq : Cel.mk k m t l = .mk k' m' t' l' → O.o sameCel (.mk k m t l) (.mk k' m' t' l') = true := fun h => by simp only [O.h]; exact sameCel_iff.2 h
    have hll : l.length ≤ 1099511627776 := hb (.mk k m t l) h
    obtain ⟨Q, eQ⟩ : ∃ Q, Q = O.o sameCel (.mk k m t l) (.mk k' m' t' l') := ⟨_, rfl⟩
    rw [← eQ] at hne heq ⊢
    obtain ⟨r, er⟩ : ∃ r, r = Cels.enc l := ⟨_, rfl⟩
    obtain ⟨r', er'⟩ : ∃ r, r = Cels.enc l' := ⟨_, rfl⟩
    have ec : Cel.enc (.mk k m t l) = [.int .i64 k, .int .i64 m, .str t, .sl false 0 false 4 r] := by rw [Cel.enc, er]
    have ed : Cel.enc (.mk k' m' t' l') = [.int .i64 k', .int .i64 m', .str t', .sl false 0 false 4 r'] := by rw [Cel.enc, er']
    rw [ec, ed]
    rw [← er] at hl1
    rw [← er'] at hl2
    obtain ⟨N, hN⟩ : ∃ N : Nat, N = l.length := ⟨_, rfl⟩
    obtain ⟨z, hz⟩ : ∃ z : Nat, z = 0 := ⟨_, rfl⟩
    refine go (fn := Go.Proofs.Tryd.f52) (n := 51) (rv := [ResultVar.tmp 4]) rfl (by decide) rfl (by decide +kernel) rfl rfl (by simp) fun F L C => ?_
    cbv
    (repeat' first | (refine Named.i64 ?_ fun _ _ => ?_; (focus lia); cbv) | (refine Named.len fun _ _ hq => ?_; (try simp only [List.length_append, List.length_take, List.length_drop, List.length_replicate, List.length_set] at hq); cbv) | (refine Named.mk fun _ _ => ?_; cbv) | (refine Br.t ?_ ?_; (focus first | assumption | lia); cbv) | (refine Br.f ?_ ?_; (focus first | assumption | lia); cbv) | (refine Br.mk (fun _ => ?_) (fun _ => ?_) <;> cbv) | (refine Need.mk ?_ ?_; rotate_left; cbv) | (refine RetThen.mk [] [] ?_; cbv))
    all_goals try first
      | (refine ⟨hne fun h => ?_, trivial⟩; simp only [Cel.mk.injEq] at h; obtain ⟨a1, a2, a3, a4⟩ := h; subst a4; clear hne heq ih hb er er' ec ed; grind)
    have e1 : k = k' := by assumption
    have e2 : m = m' := by assumption
    have e3 : t = t' := by assumption
    have hl3 : l.length = l'.length := by clear hne heq ih hb er er' ec ed; lia
    refine LoopThen.mk (C.loopAt (ι := Nat) [(4, 5), (34, 52)] (fun i => [(4, .bool false), (5, .int .i64 i)]) (fun _ => [(256, .box [.int .i64 k, .int .i64 m, .str t, .sl false 0 false 4 r]), (320, .box [.int .i64 k', .int .i64 m', .str t', .sl false 0 false 4 r'])])
      (fun i => i ≤ l.length ∧ ∀ (j : Nat), j < i → l[j]? = l'[j]?) (fun i => N - i) (by decide +kernel) (Start.mk z [] [] ⟨by lia, fun j hj => by omega⟩ (by cbv; (repeat' apply And.intro) <;> first | exact True.intro | exact WkR.refl _ | rfl | lia)) ?_)
    intro i g
    cbv
    have g1 : i ≤ l.length := g.1
    have g2 := g.2
    clear g
    by_cases hi : i < l.length
    · obtain ⟨x, hx⟩ : ∃ x, l[i]? = some x := ⟨l[i], by simp [hi]⟩
      obtain ⟨y, hy⟩ : ∃ y, l'[i]? = some y := ⟨l'[i]'(by omega), by simp⟩
      have rx : r[i]? = some x.enc := by rw [er, Cels.enc_map, List.getElem?_map, hx]; rfl
      have ry : r'[i]? = some y.enc := by rw [er', Cels.enc_map, List.getElem?_map, hy]; rfl
      have hc := ih x y (List.mem_of_getElem? hx)
      have hso : O.o sameCel x y = true ↔ x = y := by rw [O.h]; exact sameCel_iff
      have hst : x = y → ∀ (j : Nat), j < i + 1 → l[j]? = l'[j]? := fun h j hj => by
        by_cases ej : j = i
        · subst ej; rw [hx, hy, h]
        · exact g2 j (by omega)
      have hnx : x ≠ y → Q = false := fun h => hne fun e => h (by
        simp only [Cel.mk.injEq] at e
        rw [e.2.2.2, hy] at hx; exact (Option.some.inj hx).symm)
      obtain ⟨B, eB⟩ : ∃ B, B = O.o sameCel x y := ⟨_, rfl⟩
      rw [← eB] at hc hso
      obtain ⟨kx, mx, tx, lx⟩ := x
      obtain ⟨ky, my, ty, ly⟩ := y
      obtain ⟨sx, esx⟩ : ∃ e, e = Cels.enc lx := ⟨_, rfl⟩
      obtain ⟨sy, esy⟩ : ∃ e, e = Cels.enc ly := ⟨_, rfl⟩
      rw [show Cel.enc (.mk kx mx tx lx) = [.int .i64 kx, .int .i64 mx, .str tx, .sl false 0 false 4 sx] by rw [Cel.enc, esx]] at rx hc
      rw [show Cel.enc (.mk ky my ty ly) = [.int .i64 ky, .int .i64 my, .str ty, .sl false 0 false 4 sy] by rw [Cel.enc, esy]] at ry hc
      clear ih hb er er' ec ed heq g2
      (repeat' first | (refine Named.i64 ?_ fun _ _ => ?_; (focus lia); cbv) | (refine Ex.at [.int .i64 kx, .int .i64 mx, .str tx, .sl false 0 false 4 sx] ⟨by clear rx ry hso hst hnx hx hy; lia, rx⟩ ?_; cbv) | (refine Ex.at [.int .i64 ky, .int .i64 my, .str ty, .sl false 0 false 4 sy] ⟨by clear rx ry hso hst hnx hx hy; lia, ry⟩ ?_; cbv) | (refine CallThen.bool (C.fn (hc)) (fun _ => ?_) (fun _ => ?_) <;> cbv) | (refine Back.up [] [] ?_ ?_ fun _ _ => ?_; rotate_left 2; cbv; refine And.intro ?_ ?_) | (refine Named.len fun _ _ hq => ?_; (try simp only [List.length_append, List.length_take, List.length_drop, List.length_replicate, List.length_set] at hq); cbv) | (refine Named.mk fun _ _ => ?_; cbv) | (refine Br.t ?_ ?_; (focus first | assumption | lia); cbv) | (refine Br.f ?_ ?_; (focus first | assumption | lia); cbv) | (refine Br.mk (fun _ => ?_) (fun _ => ?_) <;> cbv) | (refine Need.mk ?_ ?_; rotate_left; cbv) | (refine RetThen.mk [] [] ?_; cbv))
      all_goals (repeat' apply And.intro)
      all_goals try first
        | exact True.intro
        | exact WkR.refl _
        | (clear rx ry hso hst hnx hx hy; lia)
      all_goals first
        | exact hnx fun h => by rename_i hh; rw [hso.2 h] at hh; cases hh
        | exact hst (hso.1 (by assumption))
        | trace_state
    · (repeat' first | (refine Named.i64 ?_ fun _ _ => ?_; (focus lia); cbv) | (refine Named.len fun _ _ hq => ?_; (try simp only [List.length_append, List.length_take, List.length_drop, List.length_replicate, List.length_set] at hq); cbv) | (refine Named.mk fun _ _ => ?_; cbv) | (refine Br.t ?_ ?_; (focus first | assumption | lia); cbv) | (refine Br.f ?_ ?_; (focus first | assumption | lia); cbv) | (refine Br.mk (fun _ => ?_) (fun _ => ?_) <;> cbv) | (refine Need.mk ?_ ?_; rotate_left; cbv) | (refine RetThen.mk [] [] ?_; cbv))
      all_goals refine ⟨heq ?_, trivial⟩
      all_goals
        have : l = l' := List.ext_getElem? fun j => by
          by_cases hj : j < l.length
          · exact g2 j (by omega)
          · rw [List.getElem?_eq_none (by omega), List.getElem?_eq_none (by omega)]
        rw [e1, e2, e3, this]
end Go.Sym
