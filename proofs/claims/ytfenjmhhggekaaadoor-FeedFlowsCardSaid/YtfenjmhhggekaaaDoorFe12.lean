/- Feeds that are alike, as the program tells it; changes follow, by the document. -/
import Derived.Test.YtfenjmhhggekaaaDoorFe11
import Derived.Test.YtfenjmhhggekaaaDoorPa5
set_option linter.all false
set_option linter.unusedVariables false
set_option linter.unusedSimpArgs false
namespace Go.Sym
open Go Go.Proofs.Tryd
set_option maxRecDepth 100000
theorem equalS_fn (O : Opq) (d e : List Sub) (hd : d.length ≤ 1099511627776) : Fn prog 85 [.sl false 0 false 2 (O.o Subs.enc d), .sl false 0 false 2 (O.o Subs.enc e)] [] [.bool (O.o sameS d e)] [] := by
  have hlen := Subs.len O d
  have hlen2 := Subs.len O e
  obtain ⟨N, hN⟩ : ∃ N : Nat, N = d.length := ⟨_, rfl⟩
  obtain ⟨z, hz⟩ : ∃ z : Nat, z = 0 := ⟨_, rfl⟩
  refine go (fn := Go.Proofs.Tryd.f85) (n := 24) (rv := [ResultVar.tmp 4]) rfl (by decide) rfl (by decide +kernel) rfl rfl (by simp) fun F L C => ?_
  cbv
  (repeat' first | (refine Named.i64 ?_ fun _ _ => ?_; (focus lia); cbv) | (refine Named.len fun _ _ hq => ?_; (try simp only [List.length_append, List.length_take, List.length_drop, List.length_replicate, List.length_set] at hq); cbv) | (refine Named.mk fun _ _ => ?_; cbv) | (refine Br.t ?_ ?_; (focus first | assumption | lia); cbv) | (refine Br.f ?_ ?_; (focus first | assumption | lia); cbv) | (refine Br.mk (fun _ => ?_) (fun _ => ?_) <;> cbv) | (refine Need.mk ?_ ?_; rotate_left; cbv) | (refine RetThen.mk [] [] ?_; cbv))
  all_goals try first
    | (refine ⟨?_, trivial⟩; simp only [O.h]; exact sameS_len (by lia))
  refine LoopThen.mk (C.loopAt (ι := Nat) [(4, 5), (13, 25)] (fun k => [(4, .bool false), (13, .int .i64 k)]) (fun _ => [])
    (fun k => k ≤ d.length ∧ ∀ (j : Nat), j < k → d[j]? = e[j]?) (fun k => N - k) (by decide +kernel) (Start.mk z [] [] ⟨by lia, fun j hj => by omega⟩ (by cbv; (repeat' apply And.intro) <;> first | exact True.intro | exact WkR.refl _ | rfl | lia)) ?_)
  intro k g
  cbv
  have g1 : k ≤ d.length := g.1
  have g2 := g.2
  clear g
  by_cases hk : k < d.length
  · obtain ⟨x, hx⟩ : ∃ x, d[k]? = some x := ⟨d[k], by simp [hk]⟩
    obtain ⟨y, hy⟩ : ∃ y, e[k]? = some y := ⟨e[k]'(by lia), by simp⟩
    have hne : x ≠ y → O.o sameS d e = false := fun h => by simp only [O.h]; exact sameS_at (k := k) (by rw [hx, hy]; simpa using h)
    have hst : x = y → ∀ (j : Nat), j < k + 1 → d[j]? = e[j]? := fun h j hj => by
      by_cases ej : j = k
      · subst ej; rw [hx, hy, h]
      · exact g2 j (by omega)
    clear g2
    obtain ⟨nm, p⟩ := x
    obtain ⟨nm', p'⟩ := y
    (repeat' first | (refine Named.i64 ?_ fun _ _ => ?_; (focus lia); cbv) | (refine Ex.known O Sub.enc rfl hx ?_ ?_; (focus lia); cbv) | (refine Ex.known O Sub.enc rfl hy ?_ ?_; (focus lia); cbv) | (refine Back.up [] [] ?_ ?_ fun _ _ => ?_; rotate_left 2; cbv; refine And.intro ?_ ?_) | (refine Named.len fun _ _ hq => ?_; (try simp only [List.length_append, List.length_take, List.length_drop, List.length_replicate, List.length_set] at hq); cbv) | (refine Named.mk fun _ _ => ?_; cbv) | (refine Br.t ?_ ?_; (focus first | assumption | lia); cbv) | (refine Br.f ?_ ?_; (focus first | assumption | lia); cbv) | (refine Br.mk (fun _ => ?_) (fun _ => ?_) <;> cbv) | (refine Need.mk ?_ ?_; rotate_left; cbv) | (refine RetThen.mk [] [] ?_; cbv))
    all_goals (repeat' apply And.intro)
    all_goals try first
      | exact True.intro
      | exact WkR.refl _
      | (clear hx hy hne hst; lia)
    all_goals first
      | (refine hne fun h => ?_; simp only [Sub.mk.injEq] at h; clear hx hy hst; simp_all; done)
      | (refine hst ?_; simp only [Sub.mk.injEq]; clear hx hy hne hst; simp_all; done)
      | trace_state
  · (repeat' first | (refine Named.i64 ?_ fun _ _ => ?_; (focus lia); cbv) | (refine Named.len fun _ _ hq => ?_; (try simp only [List.length_append, List.length_take, List.length_drop, List.length_replicate, List.length_set] at hq); cbv) | (refine Named.mk fun _ _ => ?_; cbv) | (refine Br.t ?_ ?_; (focus first | assumption | lia); cbv) | (refine Br.f ?_ ?_; (focus first | assumption | lia); cbv) | (refine Br.mk (fun _ => ?_) (fun _ => ?_) <;> cbv) | (refine Need.mk ?_ ?_; rotate_left; cbv) | (refine RetThen.mk [] [] ?_; cbv))
    all_goals (repeat' apply And.intro)
    all_goals try first
      | exact True.intro
      | lia
    all_goals
      simp only [O.h]
      exact sameS_all (by clear g2; lia) fun j hj => g2 j (by clear g2; lia)
theorem same1_fn (O : Opq) (x y : Change) (hx : x.doc.length ≤ 1099511627776) : Fn prog 87 [.agg (x.enc O), .agg (y.enc O)] [] [.bool (O.o sameCh1 x y)] [] := by
  obtain ⟨p, key, has, doc⟩ := x
  obtain ⟨p', key', has', doc'⟩ := y
  have hne : (⟨p, key, has, doc⟩ : Change) ≠ ⟨p', key', has', doc'⟩ → O.o sameCh1 ⟨p, key, has, doc⟩ ⟨p', key', has', doc'⟩ = false := fun h => by simp only [O.h]; exact sameCh1_no h
  have heq : (⟨p, key, has, doc⟩ : Change) = ⟨p', key', has', doc'⟩ → O.o sameCh1 ⟨p, key, has, doc⟩ ⟨p', key', has', doc'⟩ = true := fun h => by simp only [O.h]; exact sameCh1_iff.2 h
  have hsd : O.o sameDoc doc doc' = true ↔ doc = doc' := by rw [O.h]; exact sameDoc_iff
  cases has <;> cases has'
  all_goals
    refine go (fn := Go.Proofs.Tryd.f87) (n := 29) (rv := [ResultVar.tmp 4]) rfl (by decide) rfl (by decide +kernel) rfl rfl (by simp) fun F L C => ?_
    cbv
    (repeat' first | (refine Named.i64 ?_ fun _ _ => ?_; (focus lia); cbv) | (refine CallThen.bool (C.fn (same_fn O doc doc' hx)) (fun _ => ?_) (fun _ => ?_) <;> cbv) | (refine Named.len fun _ _ hq => ?_; (try simp only [List.length_append, List.length_take, List.length_drop, List.length_replicate, List.length_set] at hq); cbv) | (refine Named.mk fun _ _ => ?_; cbv) | (refine Br.t ?_ ?_; (focus first | assumption | lia); cbv) | (refine Br.f ?_ ?_; (focus first | assumption | lia); cbv) | (refine Br.mk (fun _ => ?_) (fun _ => ?_) <;> cbv) | (refine Need.mk ?_ ?_; rotate_left; cbv) | (refine RetThen.mk [] [] ?_; cbv))
    all_goals refine ⟨?_, trivial⟩
    all_goals first
      | (refine hne fun h => ?_; cases h; clear hne heq; simp_all; done)
      | (refine hne fun h => ?_; simp only [Change.mk.injEq] at h; clear hne heq; grind)
      | (refine heq ?_; simp only [Change.mk.injEq]; clear hne heq; grind)
      | trace_state
theorem equalC_fn (O : Opq) (d e : List Change) (hd : d.length ≤ 1099511627776) (hdd : ∀ c ∈ d, c.doc.length ≤ 1099511627776) : Fn prog 86 [.sl false 0 false 4 (O.o (Chs.enc O) d), .sl false 0 false 4 (O.o (Chs.enc O) e), .fn 87 [] []] [] [.bool (O.o sameC d e)] [] := by
  have hlen := Chs.len O d
  have hlen2 := Chs.len O e
  obtain ⟨N, hN⟩ : ∃ N : Nat, N = d.length := ⟨_, rfl⟩
  obtain ⟨z, hz⟩ : ∃ z : Nat, z = 0 := ⟨_, rfl⟩
  refine go (fn := Go.Proofs.Tryd.f86) (n := 29) (rv := [ResultVar.tmp 6]) rfl (by decide) rfl (by decide +kernel) rfl rfl (by simp) fun F L C => ?_
  cbv
  (repeat' first | (refine Named.i64 ?_ fun _ _ => ?_; (focus lia); cbv) | (refine Named.len fun _ _ hq => ?_; (try simp only [List.length_append, List.length_take, List.length_drop, List.length_replicate, List.length_set] at hq); cbv) | (refine Named.mk fun _ _ => ?_; cbv) | (refine Br.t ?_ ?_; (focus first | assumption | lia); cbv) | (refine Br.f ?_ ?_; (focus first | assumption | lia); cbv) | (refine Br.mk (fun _ => ?_) (fun _ => ?_) <;> cbv) | (refine Need.mk ?_ ?_; rotate_left; cbv) | (refine RetThen.mk [] [] ?_; cbv))
  all_goals try first
    | (refine ⟨?_, trivial⟩; simp only [O.h]; exact sameC_len (by lia))
  refine LoopThen.mk (C.loopAt (ι := Nat) [(6, 9), (17, 31)] (fun k => [(6, .bool false), (17, .int .i64 k)]) (fun _ => [])
    (fun k => k ≤ d.length ∧ ∀ (j : Nat), j < k → d[j]? = e[j]?) (fun k => N - k) (by decide +kernel) (Start.mk z [] [] ⟨by lia, fun j hj => by omega⟩ (by cbv; (repeat' apply And.intro) <;> first | exact True.intro | exact WkR.refl _ | rfl | lia)) ?_)
  intro k g
  cbv
  have g1 : k ≤ d.length := g.1
  have g2 := g.2
  clear g
  by_cases hk : k < d.length
  · obtain ⟨x, hx⟩ : ∃ x, d[k]? = some x := ⟨d[k], by simp [hk]⟩
    obtain ⟨y, hy⟩ : ∃ y, e[k]? = some y := ⟨e[k]'(by lia), by simp⟩
    have hxd := hdd x (List.mem_of_getElem? hx)
    have hne : x ≠ y → O.o sameC d e = false := fun h => by simp only [O.h]; exact sameC_at (k := k) (by rw [hx, hy]; simpa using h)
    have hst : x = y → ∀ (j : Nat), j < k + 1 → d[j]? = e[j]? := fun h j hj => by
      by_cases ej : j = k
      · subst ej; rw [hx, hy, h]
      · exact g2 j (by omega)
    have hso : O.o sameCh1 x y = true ↔ x = y := by rw [O.h]; exact sameCh1_iff
    clear g2 hdd
    (repeat' first | (refine Named.i64 ?_ fun _ _ => ?_; (focus lia); cbv) | (refine Ex.known O (Change.enc O) rfl hx ?_ ?_; (focus lia); cbv) | (refine Ex.known O (Change.enc O) rfl hy ?_ ?_; (focus lia); cbv) | (refine CallThen.bool (C.fn (same1_fn O x y hxd)) (fun _ => ?_) (fun _ => ?_) <;> cbv) | (refine Back.up [] [] ?_ ?_ fun _ _ => ?_; rotate_left 2; cbv; refine And.intro ?_ ?_) | (refine Named.len fun _ _ hq => ?_; (try simp only [List.length_append, List.length_take, List.length_drop, List.length_replicate, List.length_set] at hq); cbv) | (refine Named.mk fun _ _ => ?_; cbv) | (refine Br.t ?_ ?_; (focus first | assumption | lia); cbv) | (refine Br.f ?_ ?_; (focus first | assumption | lia); cbv) | (refine Br.mk (fun _ => ?_) (fun _ => ?_) <;> cbv) | (refine Need.mk ?_ ?_; rotate_left; cbv) | (refine RetThen.mk [] [] ?_; cbv))
    all_goals (repeat' apply And.intro)
    all_goals try first
      | exact True.intro
      | exact WkR.refl _
      | (clear hx hy hne hst hso; lia)
    all_goals first
      | (refine hne fun h => ?_; rename_i hh; have hh : O.o sameCh1 x y = false := hh; rw [hso.2 h] at hh; cases hh; done)
      | (refine hst (hso.1 ?_); assumption)
      | trace_state
  · (repeat' first | (refine Named.i64 ?_ fun _ _ => ?_; (focus lia); cbv) | (refine Named.len fun _ _ hq => ?_; (try simp only [List.length_append, List.length_take, List.length_drop, List.length_replicate, List.length_set] at hq); cbv) | (refine Named.mk fun _ _ => ?_; cbv) | (refine Br.t ?_ ?_; (focus first | assumption | lia); cbv) | (refine Br.f ?_ ?_; (focus first | assumption | lia); cbv) | (refine Br.mk (fun _ => ?_) (fun _ => ?_) <;> cbv) | (refine Need.mk ?_ ?_; rotate_left; cbv) | (refine RetThen.mk [] [] ?_; cbv))
    all_goals (repeat' apply And.intro)
    all_goals try first
      | exact True.intro
      | lia
    all_goals
      simp only [O.h]
      exact sameC_all (by clear g2; lia) fun j hj => g2 j (by clear g2; lia)
theorem fsame_fn (O : Opq) (f g : Feed) (hd : f.changes.length ≤ 1099511627776) (hs : f.subs.length ≤ 1099511627776) (hdd : ∀ c ∈ f.changes, c.doc.length ≤ 1099511627776) : Fn prog 50 [.agg (f.enc O), .agg (g.enc O)] [] [.bool (O.o sameF f g)] [] := by
  have hne : f ≠ g → O.o sameF f g = false := fun h => by simp only [O.h]; exact sameF_no h
  have heq : f = g → O.o sameF f g = true := fun h => by simp only [O.h]; exact sameF_iff.2 h
  have hss : O.o sameS f.subs g.subs = true ↔ f.subs = g.subs := by rw [O.h]; exact sameS_iff
  have hsc : O.o sameC f.changes g.changes = true ↔ f.changes = g.changes := by rw [O.h]; exact sameC_iff
  have hpa := sameF_parts (f := f) (g := g)
  refine go (fn := Go.Proofs.Tryd.f50) (n := 29) (rv := [ResultVar.tmp 4]) rfl (by decide) rfl (by decide +kernel) rfl rfl (by simp) fun F L C => ?_
  cbv
  (repeat' first | (refine Named.i64 ?_ fun _ _ => ?_; (focus lia); cbv) | (refine CallThen.bool (C.fn (equalS_fn O f.subs g.subs hs)) (fun _ => ?_) (fun _ => ?_) <;> cbv) | (refine CallThen.bool (C.fn (equalC_fn O f.changes g.changes hd hdd)) (fun _ => ?_) (fun _ => ?_) <;> cbv) | (refine Named.len fun _ _ hq => ?_; (try simp only [List.length_append, List.length_take, List.length_drop, List.length_replicate, List.length_set] at hq); cbv) | (refine Named.mk fun _ _ => ?_; cbv) | (refine Br.t ?_ ?_; (focus first | assumption | lia); cbv) | (refine Br.f ?_ ?_; (focus first | assumption | lia); cbv) | (refine Br.mk (fun _ => ?_) (fun _ => ?_) <;> cbv) | (refine Need.mk ?_ ?_; rotate_left; cbv) | (refine RetThen.mk [] [] ?_; cbv))
  all_goals refine ⟨?_, trivial⟩
  all_goals first
    | (refine hne fun h => ?_; rw [hpa] at h; clear hdd hne heq; grind)
    | (refine heq (hpa.2 ?_); clear hdd hne heq; grind)
    | trace_state
theorem lsame_fn (O : Opq) (f w : Feed) (e c : Int) (hd : f.changes.length ≤ 1099511627776) (hs : f.subs.length ≤ 1099511627776) (hdd : ∀ c ∈ f.changes, c.doc.length ≤ 1099511627776) : Fn prog 48 [.agg (f.enc O), .int .i64 e, .agg (w.enc O), .int .i64 c] [] [.bool (O.o lsm f e w c)] [] := by
  have hne : ¬ (e = c ∧ f = w) → O.o lsm f e w c = false := fun h => by simp only [O.h]; exact lsm_no h
  have heq : e = c ∧ f = w → O.o lsm f e w c = true := fun h => by simp only [O.h]; exact lsm_iff.2 h
  have hsf : O.o sameF f w = true ↔ f = w := by rw [O.h]; exact sameF_iff
  refine go (fn := Go.Proofs.Tryd.f48) (n := 13) (rv := [ResultVar.tmp 8]) rfl (by decide) rfl (by decide +kernel) rfl rfl (by simp) fun F L C => ?_
  cbv
  (repeat' first | (refine Named.i64 ?_ fun _ _ => ?_; (focus lia); cbv) | (refine CallThen.bool (C.fn (rsameF_fn O f w hd hs hdd)) (fun _ => ?_) (fun _ => ?_) <;> cbv) | (refine Named.len fun _ _ hq => ?_; (try simp only [List.length_append, List.length_take, List.length_drop, List.length_replicate, List.length_set] at hq); cbv) | (refine Named.mk fun _ _ => ?_; cbv) | (refine Br.t ?_ ?_; (focus first | assumption | lia); cbv) | (refine Br.f ?_ ?_; (focus first | assumption | lia); cbv) | (refine Br.mk (fun _ => ?_) (fun _ => ?_) <;> cbv) | (refine Need.mk ?_ ?_; rotate_left; cbv) | (refine RetThen.mk [] [] ?_; cbv))
  all_goals refine ⟨?_, trivial⟩
  all_goals first
    | (refine hne fun h => ?_; clear hdd hne heq; grind)
    | (refine heq ?_; clear hdd hne heq; grind)
    | trace_state
end Go.Sym
