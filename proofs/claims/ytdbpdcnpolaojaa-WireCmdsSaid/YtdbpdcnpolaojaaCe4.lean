/- How many cells. -/
import Derived.Test.YtdbpdcnpolaojaaBase
import Derived.Test.YtdbpdcnpolaojaaSymJoined3
import Derived.Test.YtdbpdcnpolaojaaCeA
set_option linter.all false
set_option linter.unusedVariables false
set_option linter.unusedSimpArgs false
namespace Go.Sym
open Go Go.Proofs.Try
set_option maxRecDepth 100000
theorem count_fnC (O : Opq) : ∀ (n : Nat) (c : Cel), c.size ≤ n → (∀ e : Cel, e.size ≤ n → e.list.length ≤ 1099511627776) → ∀ x : Int, 0 ≤ x → x ≤ 100000 → Fn prog 42 [.agg c.enc, .int .i64 x] [] [.int .i64 (O.o countC c x)] []
  | 0, .mk k m t l, h, _ => by simp [Cel.size] at h
  | n + 1, .mk k m t l, h, hb => by
    intro x hx0 hx1
    have hl1 := Cels.enc_len l
    have hll : l.length ≤ 1099511627776 := hb (.mk k m t l) h
    have hsz : ∀ e ∈ l, e.size ≤ n := fun e he => by have := Cels.size_mem he; rw [Cel.size] at h; omega
    have ih := fun (e : Cel) (he : e ∈ l) => count_fnC O n e (hsz e he) fun g hg => hb g (by omega)
    obtain ⟨Q, eQ⟩ : ∃ Q, Q = O.o countC (.mk k m t l) x := ⟨_, rfl⟩
    rw [← eQ]
    have eQ2 : Q = if 65536 < t.size then -1 else countCs l (x - 1) := by rw [eQ, O.h, countC]
    obtain ⟨r, er⟩ : ∃ r, r = Cels.enc l := ⟨_, rfl⟩
    rw [← er] at hl1
    rw [show Cel.enc (.mk k m t l) = [.int .i64 k, .int .i64 m, .str t, .sl false 0 false 4 r] by rw [Cel.enc, er]]
    obtain ⟨N, hN⟩ : ∃ N : Nat, N = l.length := ⟨_, rfl⟩
    obtain ⟨z, hz⟩ : ∃ z : Nat, z = 0 := ⟨_, rfl⟩
    obtain ⟨x0, ex0⟩ : ∃ y, y = x - 1 := ⟨_, rfl⟩
    by_cases ht : 65536 < t.size
    · rw [if_pos ht] at eQ2
      clear ih er eQ
      refine go (fn := Go.Proofs.Try.f42) (n := 25) (rv := [ResultVar.tmp 4]) rfl (by decide) rfl (by decide +kernel) rfl rfl (by simp) fun F L C => ?_
      cbv
      (repeat' first | (refine Named.i64 ?_ fun _ _ => ?_; (focus lia); cbv) | (refine Named.len fun _ _ hq => ?_; (try simp only [List.length_append, List.length_take, List.length_drop, List.length_replicate, List.length_set] at hq); cbv) | (refine Named.mk fun _ _ => ?_; cbv) | (refine Br.t ?_ ?_; (focus first | assumption | lia); cbv) | (refine Br.f ?_ ?_; (focus first | assumption | lia); cbv) | (refine Br.mk (fun _ => ?_) (fun _ => ?_) <;> cbv) | (refine Need.mk ?_ ?_; rotate_left; cbv) | (refine RetThen.mk [] [] ?_; cbv))
      all_goals first | (clear hb; lia) | trace_state
    · rw [if_neg ht] at eQ2
      refine go (fn := Go.Proofs.Try.f42) (n := 25) (rv := [ResultVar.tmp 4]) rfl (by decide) rfl (by decide +kernel) rfl rfl (by simp) fun F L C => ?_
      cbv
      (repeat' first | (refine Named.i64 ?_ fun _ _ => ?_; (focus lia); cbv) | (refine Named.len fun _ _ hq => ?_; (try simp only [List.length_append, List.length_take, List.length_drop, List.length_replicate, List.length_set] at hq); cbv) | (refine Named.mk fun _ _ => ?_; cbv) | (refine Br.t ?_ ?_; (focus first | assumption | lia); cbv) | (refine Br.f ?_ ?_; (focus first | assumption | lia); cbv) | (refine Br.mk (fun _ => ?_) (fun _ => ?_) <;> cbv) | (refine Need.mk ?_ ?_; rotate_left; cbv) | (refine RetThen.mk [] [] ?_; cbv))
      all_goals try (clear hb ih er eQ hsz; lia)
      refine LoopThen.mk (C.loopAt (ι := Nat × Int) [(1, 1), (4, 4), (6, 6), (16, 25)] (fun y => [(1, .int .i64 y.2), (4, .int .i64 0), (16, .int .i64 y.1)]) (fun _ => [(256, .box [.int .i64 k, .int .i64 m, .str t, .sl false 0 false 4 r])])
        (fun y => y.1 ≤ l.length ∧ -1 ≤ y.2 ∧ y.2 ≤ 100000 ∧ countCs (l.drop y.1) y.2 = Q) (fun y => N - y.1) (by decide +kernel) (Start.mk (z, x0) [] [] ⟨by show z ≤ _; omega, by show -1 ≤ x0; omega, by show x0 ≤ _; omega, by rw [hz, eQ2, ex0]; rfl⟩ ?_) ?_)
      · cbv
        (repeat' apply And.intro) <;> first | exact True.intro | exact WkR.refl _ | rfl | (clear hb ih er eQ hsz; lia) | trace_state
      intro y g
      cbv
      obtain ⟨i, v⟩ := y
      have g1 : i ≤ l.length := g.1
      have g2 : -1 ≤ v := g.2.1
      have g3 : v ≤ 100000 := g.2.2.1
      have g4 : countCs (l.drop i) v = Q := g.2.2.2
      clear g
      by_cases hi : i < l.length
      · obtain ⟨e, he⟩ : ∃ e, l[i]? = some e := ⟨l[i], by simp [hi]⟩
        have rx : r[i]? = some e.enc := by rw [er, Cels.enc_map, List.getElem?_map, he]; rfl
        have hdr : countCs (l.drop i) v = if v < 0 then -1 else countCs (l.drop (i + 1)) (countC e v) := by
          obtain ⟨_, ee⟩ := List.getElem?_eq_some_iff.1 he
          rw [List.drop_eq_getElem_cons hi, countCs, ee]
        rw [hdr] at g4
        by_cases hv : v < 0
        · rw [if_pos hv] at g4
          clear ih hb er eQ hsz hdr eQ2
          obtain ⟨kx, mx, tx, lx⟩ := e
          obtain ⟨sx, esx⟩ : ∃ e, e = Cels.enc lx := ⟨_, rfl⟩
          rw [show Cel.enc (.mk kx mx tx lx) = [.int .i64 kx, .int .i64 mx, .str tx, .sl false 0 false 4 sx] by rw [Cel.enc, esx]] at rx
          (repeat' first | (refine Named.i64 ?_ fun _ _ => ?_; (focus lia); cbv) | (refine Ex.at [.int .i64 kx, .int .i64 mx, .str tx, .sl false 0 false 4 sx] ⟨by clear rx he; lia, rx⟩ ?_; cbv) | (refine Named.len fun _ _ hq => ?_; (try simp only [List.length_append, List.length_take, List.length_drop, List.length_replicate, List.length_set] at hq); cbv) | (refine Named.mk fun _ _ => ?_; cbv) | (refine Br.t ?_ ?_; (focus first | assumption | lia); cbv) | (refine Br.f ?_ ?_; (focus first | assumption | lia); cbv) | (refine Br.mk (fun _ => ?_) (fun _ => ?_) <;> cbv) | (refine Need.mk ?_ ?_; rotate_left; cbv) | (refine RetThen.mk [] [] ?_; cbv))
          all_goals first | (clear rx he; lia) | trace_state
        · rw [if_neg hv] at g4
          have hc := ih e (List.mem_of_getElem? he) v (by omega) g3
          have hle := countC_le e v (by omega)
          have hcc : O.o countC e v = countC e v := by rw [O.h]
          obtain ⟨w, ew⟩ : ∃ w, w = O.o countC e v := ⟨_, rfl⟩
          rw [← ew] at hc hcc
          rw [← hcc] at hle g4
          clear ih hb er eQ hsz hdr eQ2 hcc ew
          obtain ⟨kx, mx, tx, lx⟩ := e
          obtain ⟨sx, esx⟩ : ∃ e, e = Cels.enc lx := ⟨_, rfl⟩
          rw [show Cel.enc (.mk kx mx tx lx) = [.int .i64 kx, .int .i64 mx, .str tx, .sl false 0 false 4 sx] by rw [Cel.enc, esx]] at rx hc
          (repeat' first | (refine Named.i64 ?_ fun _ _ => ?_; (focus lia); cbv) | (refine Ex.at [.int .i64 kx, .int .i64 mx, .str tx, .sl false 0 false 4 sx] ⟨by clear rx he hc g4; lia, rx⟩ ?_; cbv) | (refine CallThen.mk _ _ (C.fn (hc)) ?_; cbv) | (refine Back.to (i + 1, w) [] [] ?_ fun _ _ => ?_; rotate_left; cbv) | (refine Named.len fun _ _ hq => ?_; (try simp only [List.length_append, List.length_take, List.length_drop, List.length_replicate, List.length_set] at hq); cbv) | (refine Named.mk fun _ _ => ?_; cbv) | (refine Br.t ?_ ?_; (focus first | assumption | lia); cbv) | (refine Br.f ?_ ?_; (focus first | assumption | lia); cbv) | (refine Br.mk (fun _ => ?_) (fun _ => ?_) <;> cbv) | (refine Need.mk ?_ ?_; rotate_left; cbv) | (refine RetThen.mk [] [] ?_; cbv))
          all_goals try first
            | (clear rx he hc g4; lia)
            | exact ⟨⟨by dsimp only; omega, by dsimp only; omega, by dsimp only; omega, g4⟩, by dsimp only; omega⟩
          all_goals first
            | (rename_i y ey; subst ey; (repeat' apply And.intro) <;> first | exact True.intro | exact WkR.refl _ | rfl | (dsimp only; clear rx he hc g4; lia))
            | trace_state
      · have hd : l.drop i = [] := List.drop_of_length_le (by omega)
        rw [hd, countCs] at g4
        clear ih hb er eQ hsz
        (repeat' first | (refine Named.i64 ?_ fun _ _ => ?_; (focus lia); cbv) | (refine Named.len fun _ _ hq => ?_; (try simp only [List.length_append, List.length_take, List.length_drop, List.length_replicate, List.length_set] at hq); cbv) | (refine Named.mk fun _ _ => ?_; cbv) | (refine Br.t ?_ ?_; (focus first | assumption | lia); cbv) | (refine Br.f ?_ ?_; (focus first | assumption | lia); cbv) | (refine Br.mk (fun _ => ?_) (fun _ => ?_) <;> cbv) | (refine Need.mk ?_ ?_; rotate_left; cbv) | (refine RetThen.mk [] [] ?_; cbv))
        all_goals first | lia | trace_state
end Go.Sym
