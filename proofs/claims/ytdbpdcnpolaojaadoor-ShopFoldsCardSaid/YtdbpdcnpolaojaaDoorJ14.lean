/- How deep a cell is. -/
import Derived.Test.YtdbpdcnpolaojaaDoorJ9
import Derived.Test.YtdbpdcnpolaojaaDoorJ7
import Derived.Test.YtdbpdcnpolaojaaDoorJ5
set_option linter.all false
set_option linter.unusedVariables false
set_option linter.unusedSimpArgs false
namespace Go.Sym
open Go Go.Proofs.Tryd
set_option maxRecDepth 100000
theorem deep_fn (O : Opq) : ∀ (n : Nat) (c : Cel), n ≤ 100 → (∀ e : Cel, e.size ≤ c.size → e.list.length ≤ 1099511627776) → Fn prog 76 [.agg c.enc, .int .i64 n] [] [.bool (O.o (deepN n) c)] []
  | 0, .mk k m t l, _, _ => by
    have hq : O.o (deepN 0) (.mk k m t l) = true := by rw [O.h]; rfl
    obtain ⟨r, er⟩ : ∃ r, r = Cels.enc l := ⟨_, rfl⟩
    rw [hq, show Cel.enc (.mk k m t l) = [.int .i64 k, .int .i64 m, .str t, .sl false 0 false 4 r] by rw [Cel.enc, er]]
    refine go (fn := Go.Proofs.Tryd.f76) (n := 19) (rv := [ResultVar.tmp 4]) rfl (by decide) rfl (by decide +kernel) rfl rfl (by simp) fun F L C => ?_
    cbv
    (repeat' first | (refine Named.i64 ?_ fun _ _ => ?_; (focus lia); cbv) | (refine Named.len fun _ _ hq => ?_; (try simp only [List.length_append, List.length_take, List.length_drop, List.length_replicate, List.length_set] at hq); cbv) | (refine Named.mk fun _ _ => ?_; cbv) | (refine Br.t ?_ ?_; (focus first | assumption | lia); cbv) | (refine Br.f ?_ ?_; (focus first | assumption | lia); cbv) | (refine Br.mk (fun _ => ?_) (fun _ => ?_) <;> cbv) | (refine Need.mk ?_ ?_; rotate_left; cbv) | (refine RetThen.mk [] [] ?_; cbv))
  | n + 1, .mk k m t l, hn, hb => by
    have hl1 := Cels.enc_len l
    have ih := fun (e : Cel) (he : e ∈ l) => deep_fn O n e (by omega) fun g hg => hb g (by have := Cels.size_mem he; rw [Cel.size]; omega)
    have hll : l.length ≤ 1099511627776 := hb (.mk k m t l) (Nat.le_refl _)
    have hq : O.o (deepN (n + 1)) (.mk k m t l) = l.any (deepN n) := by rw [O.h]; rfl
    obtain ⟨Q, eQ⟩ : ∃ Q, Q = l.any (deepN n) := ⟨_, rfl⟩
    rw [hq, ← eQ]
    obtain ⟨r, er⟩ : ∃ r, r = Cels.enc l := ⟨_, rfl⟩
    rw [show Cel.enc (.mk k m t l) = [.int .i64 k, .int .i64 m, .str t, .sl false 0 false 4 r] by rw [Cel.enc, er]]
    rw [← er] at hl1
    obtain ⟨N, hN⟩ : ∃ N : Nat, N = l.length := ⟨_, rfl⟩
    obtain ⟨z, hz⟩ : ∃ z : Nat, z = 0 := ⟨_, rfl⟩
    obtain ⟨v, hv⟩ : ∃ v : Int, v = ((n + 1 : Nat) : Int) := ⟨_, rfl⟩
    rw [← hv]
    refine go (fn := Go.Proofs.Tryd.f76) (n := 19) (rv := [ResultVar.tmp 4]) rfl (by decide) rfl (by decide +kernel) rfl rfl (by simp) fun F L C => ?_
    cbv
    (repeat' first | (refine Named.i64 ?_ fun _ _ => ?_; (focus lia); cbv) | (refine Named.len fun _ _ hq => ?_; (try simp only [List.length_append, List.length_take, List.length_drop, List.length_replicate, List.length_set] at hq); cbv) | (refine Named.mk fun _ _ => ?_; cbv) | (refine Br.t ?_ ?_; (focus first | assumption | lia); cbv) | (refine Br.f ?_ ?_; (focus first | assumption | lia); cbv) | (refine Br.mk (fun _ => ?_) (fun _ => ?_) <;> cbv) | (refine Need.mk ?_ ?_; rotate_left; cbv) | (refine RetThen.mk [] [] ?_; cbv))
    all_goals try (clear ih hb er eQ; lia)
    refine LoopThen.mk (C.loopAt (ι := Nat) [(4, 4), (6, 6), (12, 20)] (fun i => [(4, .bool false), (12, .int .i64 i)]) (fun _ => [(256, .box [.int .i64 k, .int .i64 m, .str t, .sl false 0 false 4 r])])
      (fun i => i ≤ l.length ∧ ∀ (j : Nat) y, j < i → l[j]? = some y → deepN n y = false) (fun i => N - i) (by decide +kernel) (Start.mk z [] [] ⟨by lia, fun j y hj => by omega⟩ (by cbv; (repeat' apply And.intro) <;> first | exact True.intro | exact WkR.refl _ | rfl | lia)) ?_)
    intro i g
    cbv
    have g1 : i ≤ l.length := g.1
    have g2 := g.2
    clear g
    by_cases hi : i < l.length
    · obtain ⟨x, hx⟩ : ∃ x, l[i]? = some x := ⟨l[i], by simp [hi]⟩
      have rx : r[i]? = some x.enc := by rw [er, Cels.enc_map, List.getElem?_map, hx]; rfl
      have hc := ih x (List.mem_of_getElem? hx)
      have hyes : O.o (deepN n) x = true → Q = true := fun h => by rw [eQ, List.any_eq_true]; exact ⟨x, List.mem_of_getElem? hx, by rwa [O.h] at h⟩
      have hst : O.o (deepN n) x = false → ∀ (j : Nat) y, j < i + 1 → l[j]? = some y → deepN n y = false := fun h j y hj hy => by
        by_cases ej : j = i
        · subst ej; rw [hx] at hy; cases hy; rwa [O.h] at h
        · exact g2 j y (by omega) hy
      have hc := fun {w : Int} (hw : w = n) => (show Fn prog 76 [.agg x.enc, .int .i64 w] [] [.bool (O.o (deepN n) x)] [] by rw [hw]; exact hc)
      obtain ⟨B, eB⟩ : ∃ B, B = O.o (deepN n) x := ⟨_, rfl⟩
      rw [← eB] at hc hyes hst
      obtain ⟨kx, mx, tx, lx⟩ := x
      obtain ⟨sx, esx⟩ : ∃ e, e = Cels.enc lx := ⟨_, rfl⟩
      rw [show Cel.enc (.mk kx mx tx lx) = [.int .i64 kx, .int .i64 mx, .str tx, .sl false 0 false 4 sx] by rw [Cel.enc, esx]] at rx hc
      clear ih hb er g2 eQ
      (repeat' first | (refine Named.i64 ?_ fun _ _ => ?_; (focus lia); cbv) | (refine Ex.at [.int .i64 kx, .int .i64 mx, .str tx, .sl false 0 false 4 sx] ⟨by clear rx hst hyes hx hc; lia, rx⟩ ?_; cbv) | (refine CallThen.bool (C.fn (hc (by clear rx hst hyes hx; lia))) (fun _ => ?_) (fun _ => ?_) <;> cbv) | (refine Back.up [] [] ?_ ?_ fun _ _ => ?_; rotate_left 2; cbv; refine And.intro ?_ ?_) | (refine Named.len fun _ _ hq => ?_; (try simp only [List.length_append, List.length_take, List.length_drop, List.length_replicate, List.length_set] at hq); cbv) | (refine Named.mk fun _ _ => ?_; cbv) | (refine Br.t ?_ ?_; (focus first | assumption | lia); cbv) | (refine Br.f ?_ ?_; (focus first | assumption | lia); cbv) | (refine Br.mk (fun _ => ?_) (fun _ => ?_) <;> cbv) | (refine Need.mk ?_ ?_; rotate_left; cbv) | (refine RetThen.mk [] [] ?_; cbv))
      all_goals (repeat' apply And.intro)
      all_goals try first
        | exact True.intro
        | exact WkR.refl _
        | (clear rx hst hyes hx hc; lia)
      all_goals first
        | exact hyes (by assumption)
        | exact hst (by assumption)
        | trace_state
    · (repeat' first | (refine Named.i64 ?_ fun _ _ => ?_; (focus lia); cbv) | (refine Named.len fun _ _ hq => ?_; (try simp only [List.length_append, List.length_take, List.length_drop, List.length_replicate, List.length_set] at hq); cbv) | (refine Named.mk fun _ _ => ?_; cbv) | (refine Br.t ?_ ?_; (focus first | assumption | lia); cbv) | (refine Br.f ?_ ?_; (focus first | assumption | lia); cbv) | (refine Br.mk (fun _ => ?_) (fun _ => ?_) <;> cbv) | (refine Need.mk ?_ ?_; rotate_left; cbv) | (refine RetThen.mk [] [] ?_; cbv))
      all_goals try (clear ih hb er g2 eQ; lia)
      all_goals
        refine ⟨?_, trivial⟩
        rw [eQ, List.any_eq_false]
        intro x hx
        obtain ⟨j, hj, rfl⟩ := List.getElem_of_mem hx
        simpa using g2 j _ (by omega) (by simp)
end Go.Sym
namespace Go.Sym
open Go Go.Proofs.Tryd
set_option maxRecDepth 100000
theorem idxCel_fn (O : Opq) (g : Nat) (q : Cel → Bool) (l : List Cel) (r : List (List PV)) (er : r = Cels.enc l) (hl : l.length ≤ 1099511627776) (hg : ∀ e ∈ l, Fn prog g [.agg e.enc] [] [.bool (O.o q e)] []) : Fn prog 95 [.sl false 0 false 4 r, .fn g [] []] [] [.int .i64 (O.o (findI q) l)] [] := by
  have hl1 : r.length = l.length := by rw [er, Cels.enc_len]
  obtain ⟨N, hN⟩ : ∃ N : Nat, N = l.length := ⟨_, rfl⟩
  obtain ⟨z, hz⟩ : ∃ z : Nat, z = 0 := ⟨_, rfl⟩
  refine go (fn := Go.Proofs.Tryd.f95) (n := 17) (rv := [ResultVar.tmp 4]) rfl (by decide) rfl (by decide +kernel) rfl rfl (by simp) fun F L C => ?_
  cbv
  (repeat' first | (refine Named.i64 ?_ fun _ _ => ?_; (focus lia); cbv) | (refine Named.len fun _ _ hq => ?_; (try simp only [List.length_append, List.length_take, List.length_drop, List.length_replicate, List.length_set] at hq); cbv) | (refine Named.mk fun _ _ => ?_; cbv) | (refine Br.t ?_ ?_; (focus first | assumption | lia); cbv) | (refine Br.f ?_ ?_; (focus first | assumption | lia); cbv) | (refine Br.mk (fun _ => ?_) (fun _ => ?_) <;> cbv) | (refine Need.mk ?_ ?_; rotate_left; cbv) | (refine RetThen.mk [] [] ?_; cbv))
  refine LoopThen.mk (C.loopAt (ι := Nat) [(4, 5), (8, 18)] (fun k => [(4, .int .i64 0), (8, .int .i64 k)]) (fun _ => [])
    (fun k => k ≤ l.length ∧ ∀ (j : Nat) y, j < k → l[j]? = some y → q y = false) (fun k => N - k) (by decide +kernel) (Start.mk z [] [] ⟨by lia, fun j y hj => by omega⟩ (by cbv; (repeat' apply And.intro) <;> first | exact True.intro | exact WkR.refl _ | rfl | lia)) ?_)
  intro i g0
  cbv
  have g1 : i ≤ l.length := g0.1
  have g2 := g0.2
  clear g0
  by_cases hi : i < l.length
  · obtain ⟨x, hx⟩ : ∃ x, l[i]? = some x := ⟨l[i], by simp [hi]⟩
    have rx : r[i]? = some x.enc := by rw [er, Cels.enc_map, List.getElem?_map, hx]; rfl
    have hc := hg x (List.mem_of_getElem? hx)
    have hyes : O.o q x = true → O.o (findI q) l = i := fun h => by simp only [O.h] at h ⊢; exact findI_at hx h g2
    have hst : O.o q x = false → ∀ (j : Nat) y, j < i + 1 → l[j]? = some y → q y = false := fun h => by rw [O.h] at h; exact srch_step g2 hx h
    obtain ⟨B, eB⟩ : ∃ B, B = O.o q x := ⟨_, rfl⟩
    rw [← eB] at hc hyes hst
    obtain ⟨kx, mx, tx, lx⟩ := x
    obtain ⟨sx, esx⟩ : ∃ e, e = Cels.enc lx := ⟨_, rfl⟩
    rw [show Cel.enc (.mk kx mx tx lx) = [.int .i64 kx, .int .i64 mx, .str tx, .sl false 0 false 4 sx] by rw [Cel.enc, esx]] at rx hc
    clear er g2 hg
    (repeat' first | (refine Named.i64 ?_ fun _ _ => ?_; (focus lia); cbv) | (refine Ex.at [.int .i64 kx, .int .i64 mx, .str tx, .sl false 0 false 4 sx] ⟨by clear rx hst hyes hx hc; lia, rx⟩ ?_; cbv) | (refine CallThen.bool (C.fn (hc)) (fun _ => ?_) (fun _ => ?_) <;> cbv) | (refine Back.up [] [] ?_ ?_ fun _ _ => ?_; rotate_left 2; cbv; refine And.intro ?_ ?_) | (refine Named.len fun _ _ hq => ?_; (try simp only [List.length_append, List.length_take, List.length_drop, List.length_replicate, List.length_set] at hq); cbv) | (refine Named.mk fun _ _ => ?_; cbv) | (refine Br.t ?_ ?_; (focus first | assumption | lia); cbv) | (refine Br.f ?_ ?_; (focus first | assumption | lia); cbv) | (refine Br.mk (fun _ => ?_) (fun _ => ?_) <;> cbv) | (refine Need.mk ?_ ?_; rotate_left; cbv) | (refine RetThen.mk [] [] ?_; cbv))
    all_goals (repeat' apply And.intro)
    all_goals try first
      | exact True.intro
      | exact WkR.refl _
      | (clear rx hst hyes hx hc; lia)
    all_goals first
      | exact hyes (by assumption)
      | exact hst (by assumption)
      | trace_state
  · (repeat' first | (refine Named.i64 ?_ fun _ _ => ?_; (focus lia); cbv) | (refine Named.len fun _ _ hq => ?_; (try simp only [List.length_append, List.length_take, List.length_drop, List.length_replicate, List.length_set] at hq); cbv) | (refine Named.mk fun _ _ => ?_; cbv) | (refine Br.t ?_ ?_; (focus first | assumption | lia); cbv) | (refine Br.f ?_ ?_; (focus first | assumption | lia); cbv) | (refine Br.mk (fun _ => ?_) (fun _ => ?_) <;> cbv) | (refine Need.mk ?_ ?_; rotate_left; cbv) | (refine RetThen.mk [] [] ?_; cbv))
    all_goals try (clear er g2 hg; lia)
    all_goals
      refine ⟨?_, trivial⟩
      simp only [O.h]
      exact findI_none fun j y hj hy => g2 j y (by omega) hy
theorem contCel_fn (O : Opq) (g : Nat) (q : Cel → Bool) (l : List Cel) (r : List (List PV)) (er : r = Cels.enc l) (hl : l.length ≤ 1099511627776) (hg : ∀ e ∈ l, Fn prog g [.agg e.enc] [] [.bool (O.o q e)] []) : Fn prog 87 [.sl false 0 false 4 r, .fn g [] []] [] [.bool (decide (0 ≤ O.o (findI q) l))] [] := by
  have hi := idxCel_fn O g q l r er hl hg
  clear hg er
  obtain ⟨w, hw⟩ : ∃ w, w = O.o (findI q) l := ⟨_, rfl⟩
  rw [← hw] at hi ⊢
  obtain ⟨B, eB⟩ : ∃ B, B = decide (0 ≤ w) := ⟨_, rfl⟩
  rw [← eB]
  refine go (fn := Go.Proofs.Tryd.f87) (n := 7) (rv := [ResultVar.tmp 4]) rfl (by decide) rfl (by decide +kernel) rfl rfl (by simp) fun F L C => ?_
  cbv
  (repeat' first | (refine Named.i64 ?_ fun _ _ => ?_; (focus lia); cbv) | (refine CallThen.mk _ _ (C.fn (hi)) ?_; cbv) | (refine Named.len fun _ _ hq => ?_; (try simp only [List.length_append, List.length_take, List.length_drop, List.length_replicate, List.length_set] at hq); cbv) | (refine Named.mk fun _ _ => ?_; cbv) | (refine Br.t ?_ ?_; (focus first | assumption | lia); cbv) | (refine Br.f ?_ ?_; (focus first | assumption | lia); cbv) | (refine Br.mk (fun _ => ?_) (fun _ => ?_) <;> cbv) | (refine Need.mk ?_ ?_; rotate_left; cbv) | (refine RetThen.mk [] [] ?_; cbv))
  all_goals refine ⟨?_, trivial⟩
  all_goals first
    | (rw [eB, decide_eq_true_eq]; assumption)
    | (rw [eB, decide_eq_false_iff_not]; assumption)
    | trace_state
theorem pure1_fn (O : Opq) (e : Cel) (h : Fn prog 77 [.agg e.enc] [] [.bool (O.o pureC e)] []) : Fn prog 88 [.agg e.enc] [] [.bool (O.o notPure e)] [] := by
  have hq : O.o notPure e = !(O.o pureC e) := by simp only [O.h]; rfl
  rw [hq]
  obtain ⟨B, eB⟩ : ∃ B, B = O.o pureC e := ⟨_, rfl⟩
  rw [← eB] at h ⊢
  obtain ⟨k, m, t, l⟩ := e
  obtain ⟨s, es⟩ : ∃ e, e = Cels.enc l := ⟨_, rfl⟩
  rw [show Cel.enc (.mk k m t l) = [.int .i64 k, .int .i64 m, .str t, .sl false 0 false 4 s] by rw [Cel.enc, es]] at h ⊢
  cases B
  all_goals
    refine go (fn := Go.Proofs.Tryd.f88) (n := 5) (rv := [ResultVar.tmp 2]) rfl (by decide) rfl (by decide +kernel) rfl rfl (by simp) fun F L C => ?_
    cbv
    (repeat' first | (refine Named.i64 ?_ fun _ _ => ?_; (focus lia); cbv) | (refine CallThen.mk _ _ (C.fn (h)) ?_; cbv) | (refine Named.len fun _ _ hq => ?_; (try simp only [List.length_append, List.length_take, List.length_drop, List.length_replicate, List.length_set] at hq); cbv) | (refine Named.mk fun _ _ => ?_; cbv) | (refine Br.t ?_ ?_; (focus first | assumption | lia); cbv) | (refine Br.f ?_ ?_; (focus first | assumption | lia); cbv) | (refine Br.mk (fun _ => ?_) (fun _ => ?_) <;> cbv) | (refine Need.mk ?_ ?_; rotate_left; cbv) | (refine RetThen.mk [] [] ?_; cbv))
theorem pure_fn (O : Opq) : ∀ (n : Nat) (c : Cel), c.size ≤ n → (∀ e : Cel, e.size ≤ n → e.list.length ≤ 1099511627776) → Fn prog 77 [.agg c.enc] [] [.bool (O.o pureC c)] []
  | 0, .mk k m t l, h, _ => by simp [Cel.size] at h
  | n + 1, .mk k m t l, h, hb => by
    have hl1 := Cels.enc_len l
    have hll : l.length ≤ 1099511627776 := hb (.mk k m t l) h
    have hsz : ∀ e ∈ l, e.size ≤ n := fun e he => by have := Cels.size_mem he; rw [Cel.size] at h; omega
    have ih := fun (e : Cel) (he : e ∈ l) => pure1_fn O e (pure_fn O n e (hsz e he) fun g hg => hb g (by omega))
    have hP : pureC (.mk k m t l) = if k = 1 then decide (-9007199254740992 ≤ m ∧ m ≤ 9007199254740992 ∧ t = ByteArray.empty ∧ l.length = 0) else if k = 2 then decide (m = 0 ∧ l.length = 0) else if k = 3 then decide (m = 0 ∧ t = ByteArray.empty ∧ pureCs l = true) else false := by rw [pureC]
    obtain ⟨r, er⟩ : ∃ r, r = Cels.enc l := ⟨_, rfl⟩
    have hcf := contCel_fn O 88 notPure l r er hll ih
    rw [← er] at hl1
    have hfp : pureCs l = true ↔ ¬ 0 ≤ O.o (findI notPure) l := by
      rw [pureCs_find, O.h]
      constructor
      · intro h; rw [h]; decide
      · intro h
        have : findI notPure l = -1 ∨ 0 ≤ findI notPure l := by rw [findI]; split <;> omega
        omega
    obtain ⟨B, eB⟩ : ∃ B, B = decide (0 ≤ O.o (findI notPure) l) := ⟨_, rfl⟩
    rw [← eB] at hcf
    have hB : pureCs l = true ↔ B = false := by rw [hfp, eB, decide_eq_false_iff_not]
    obtain ⟨Q, eQ⟩ : ∃ Q, Q = O.o pureC (.mk k m t l) := ⟨_, rfl⟩
    rw [← eQ]
    have eQ2 : Q = pureC (.mk k m t l) := by rw [eQ, O.h]
    rw [hP] at eQ2
    rw [show Cel.enc (.mk k m t l) = [.int .i64 k, .int .i64 m, .str t, .sl false 0 false 4 r] by rw [Cel.enc, er]]
    clear ih er eQ hP hfp eB hb hsz
    cases B
    all_goals
      simp only [hB, Bool.true_eq_false, and_false, and_true, decide_false] at eQ2
      refine go (fn := Go.Proofs.Tryd.f77) (n := 52) (rv := [ResultVar.tmp 2]) rfl (by decide) rfl (by decide +kernel) rfl rfl (by simp) fun F L C => ?_
      cbv
      (repeat' first | (refine Named.i64 ?_ fun _ _ => ?_; (focus lia); cbv) | (refine CallThen.mk _ _ (C.fn (hcf)) ?_; cbv) | (refine Named.len fun _ _ hq => ?_; (try simp only [List.length_append, List.length_take, List.length_drop, List.length_replicate, List.length_set] at hq); cbv) | (refine Named.mk fun _ _ => ?_; cbv) | (refine Br.t ?_ ?_; (focus first | assumption | lia); cbv) | (refine Br.f ?_ ?_; (focus first | assumption | lia); cbv) | (refine Br.mk (fun _ => ?_) (fun _ => ?_) <;> cbv) | (refine Need.mk ?_ ?_; rotate_left; cbv) | (refine RetThen.mk [] [] ?_; cbv))
      all_goals refine ⟨?_, trivial⟩
      all_goals first
        | (rw [eQ2]; simp_all [emp]; done)
        | (rw [eQ2]; simp_all [emp]; lia)
        | (rw [eQ2]; grind)
        | (have h0 : l.length = 0 := by (clear hcf hB eQ2; lia)
           have ht : t = ByteArray.empty := by assumption
           rw [eQ2, if_pos (by assumption)]
           exact decide_eq_true ⟨by assumption, by assumption, ht, h0⟩)
        | trace_state
end Go.Sym
