/- Are two answers alike, as the program tells it. -/
import Derived.Test.YtdbpdcnpolaojaaGreatDoorJ19
import Derived.Test.YtdbpdcnpolaojaaGreatDoorJ11
import Derived.Test.YtdbpdcnpolaojaaGreatDoorJ16
set_option linter.all false
set_option linter.unusedVariables false
set_option linter.unusedSimpArgs false
namespace Go.Sym
open Go Go.Proofs.Tryz
set_option maxRecDepth 100000
open Classical in
noncomputable def sameN1 (x y : Ndoc) : Bool := decide (x = y)
theorem sameN1_iff {x y : Ndoc} : sameN1 x y = true ↔ x = y := by simp [sameN1]
theorem sameN1_no {x y : Ndoc} (h : x ≠ y) : sameN1 x y = false := by simp [sameN1, h]
theorem equalP_fn (O : Opq) (d e : List PairK) (hd : d.length ≤ 9223372036854775807) : Fn prog 98 [.sl false 0 false 2 (O.o Prs.enc d), .sl false 0 false 2 (O.o Prs.enc e)] [] [.bool (O.o sameP d e)] [] := by
  have hlen := Prs.len O d
  have hlen2 := Prs.len O e
  obtain ⟨N, hN⟩ : ∃ N : Nat, N = d.length := ⟨_, rfl⟩
  obtain ⟨z, hz⟩ : ∃ z : Nat, z = 0 := ⟨_, rfl⟩
  refine go (fn := Go.Proofs.Tryz.f98) (n := 24) (rv := [ResultVar.tmp 4]) rfl (by decide) rfl (by decide +kernel) rfl rfl (by simp) fun F L C => ?_
  cbv
  (repeat' first | (refine Named.i64 ?_ fun _ _ => ?_; (focus lia); cbv) | (refine Named.len fun _ _ hq => ?_; (try simp only [List.length_append, List.length_take, List.length_drop, List.length_replicate, List.length_set] at hq); cbv) | (refine Named.mk fun _ _ => ?_; cbv) | (refine Br.t ?_ ?_; (focus first | assumption | lia); cbv) | (refine Br.f ?_ ?_; (focus first | assumption | lia); cbv) | (refine Br.mk (fun _ => ?_) (fun _ => ?_) <;> cbv) | (refine Need.mk ?_ ?_; rotate_left; cbv) | (refine RetThen.mk [] [] ?_; cbv))
  all_goals try first
    | (refine ⟨?_, trivial⟩; simp only [O.h]; exact sameP_len (by lia))
  refine LoopThen.mk (C.loopAt (ι := Nat) [(4, 5), (13, 25)] (fun k => [(4, .bool false), (13, .int .i64 k)]) (fun _ => [])
    (fun k => k ≤ d.length ∧ ∀ (j : Nat), j < k → d[j]? = e[j]?) (fun k => N - k) (by decide +kernel) (Start.mk z [] [] ⟨by lia, fun j hj => by omega⟩ (by cbv; (repeat' apply And.intro) <;> first | exact True.intro | exact WkR.refl _ | rfl | lia)) ?_)
  intro k g
  cbv
  have g1 : k ≤ d.length := g.1
  have g2 := g.2
  clear g
  by_cases hk : k < d.length
  · obtain ⟨x, hx⟩ : ∃ x, d[k]? = some x := ⟨d[k], by simp [hk]⟩
    obtain ⟨y, hy⟩ : ∃ y, e[k]? = some y := ⟨e[k]'(by lia), by simp⟩
    have hne : x ≠ y → O.o sameP d e = false := fun h => by simp only [O.h]; exact sameP_at (k := k) (by rw [hx, hy]; simpa using h)
    have hst : x = y → ∀ (j : Nat), j < k + 1 → d[j]? = e[j]? := fun h j hj => by
      by_cases ej : j = k
      · subst ej; rw [hx, hy, h]
      · exact g2 j (by omega)
    clear g2
    obtain ⟨nm, p⟩ := x
    obtain ⟨nm', p'⟩ := y
    (repeat' first | (refine Named.i64 ?_ fun _ _ => ?_; (focus lia); cbv) | (refine Ex.known O PairK.enc rfl hx ?_ ?_; (focus lia); cbv) | (refine Ex.known O PairK.enc rfl hy ?_ ?_; (focus lia); cbv) | (refine Back.up [] [] ?_ ?_ fun _ _ => ?_; rotate_left 2; cbv; refine And.intro ?_ ?_) | (refine Named.len fun _ _ hq => ?_; (try simp only [List.length_append, List.length_take, List.length_drop, List.length_replicate, List.length_set] at hq); cbv) | (refine Named.mk fun _ _ => ?_; cbv) | (refine Br.t ?_ ?_; (focus first | assumption | lia); cbv) | (refine Br.f ?_ ?_; (focus first | assumption | lia); cbv) | (refine Br.mk (fun _ => ?_) (fun _ => ?_) <;> cbv) | (refine Need.mk ?_ ?_; rotate_left; cbv) | (refine RetThen.mk [] [] ?_; cbv))
    all_goals (repeat' apply And.intro)
    all_goals try first
      | exact True.intro
      | exact WkR.refl _
      | (clear hx hy hne hst; lia)
    all_goals first
      | (refine hne fun h => ?_; simp only [PairK.mk.injEq] at h; clear hx hy hst; simp_all; done)
      | (refine hst ?_; simp only [PairK.mk.injEq]; clear hx hy hne hst; simp_all; done)
      | trace_state
  · (repeat' first | (refine Named.i64 ?_ fun _ _ => ?_; (focus lia); cbv) | (refine Named.len fun _ _ hq => ?_; (try simp only [List.length_append, List.length_take, List.length_drop, List.length_replicate, List.length_set] at hq); cbv) | (refine Named.mk fun _ _ => ?_; cbv) | (refine Br.t ?_ ?_; (focus first | assumption | lia); cbv) | (refine Br.f ?_ ?_; (focus first | assumption | lia); cbv) | (refine Br.mk (fun _ => ?_) (fun _ => ?_) <;> cbv) | (refine Need.mk ?_ ?_; rotate_left; cbv) | (refine RetThen.mk [] [] ?_; cbv))
    all_goals (repeat' apply And.intro)
    all_goals try first
      | exact True.intro
      | lia
    all_goals
      simp only [O.h]
      exact sameP_all (by clear g2; lia) fun j hj => g2 j (by clear g2; lia)
theorem ssame2_fn (O : Opq) (x y : Change) (hx : x.doc.length ≤ 9223372036854775807) : Fn prog 95 [.agg (x.enc O), .agg (y.enc O)] [] [.bool (O.o sameCh1 x y)] [] := by
  obtain ⟨p, key, has, doc⟩ := x
  obtain ⟨p', key', has', doc'⟩ := y
  have hne : (⟨p, key, has, doc⟩ : Change) ≠ ⟨p', key', has', doc'⟩ → O.o sameCh1 ⟨p, key, has, doc⟩ ⟨p', key', has', doc'⟩ = false := fun h => by simp only [O.h]; exact sameCh1_no h
  have heq : (⟨p, key, has, doc⟩ : Change) = ⟨p', key', has', doc'⟩ → O.o sameCh1 ⟨p, key, has, doc⟩ ⟨p', key', has', doc'⟩ = true := fun h => by simp only [O.h]; exact sameCh1_iff.2 h
  have hsd : O.o sameDoc doc doc' = true ↔ doc = doc' := by rw [O.h]; exact sameDoc_iff
  cases has <;> cases has'
  all_goals
    refine go (fn := Go.Proofs.Tryz.f95) (n := 29) (rv := [ResultVar.tmp 4]) rfl (by decide) rfl (by decide +kernel) rfl rfl (by simp) fun F L C => ?_
    cbv
    (repeat' first | (refine Named.i64 ?_ fun _ _ => ?_; (focus lia); cbv) | (refine CallThen.bool (C.fn (sameW_fn O doc doc' hx)) (fun _ => ?_) (fun _ => ?_) <;> cbv) | (refine Named.len fun _ _ hq => ?_; (try simp only [List.length_append, List.length_take, List.length_drop, List.length_replicate, List.length_set] at hq); cbv) | (refine Named.mk fun _ _ => ?_; cbv) | (refine Br.t ?_ ?_; (focus first | assumption | lia); cbv) | (refine Br.f ?_ ?_; (focus first | assumption | lia); cbv) | (refine Br.mk (fun _ => ?_) (fun _ => ?_) <;> cbv) | (refine Need.mk ?_ ?_; rotate_left; cbv) | (refine RetThen.mk [] [] ?_; cbv))
    all_goals refine ⟨?_, trivial⟩
    all_goals first
      | (refine hne fun h => ?_; cases h; clear hne heq; simp_all; done)
      | (refine hne fun h => ?_; simp only [Change.mk.injEq] at h; clear hne heq; grind)
      | (refine heq ?_; simp only [Change.mk.injEq]; clear hne heq; grind)
      | trace_state
theorem ssame1_fn (O : Opq) (x y : Ndoc) (hx : x.doc.length ≤ 9223372036854775807) : Fn prog 93 [.agg (x.enc O), .agg (y.enc O)] [] [.bool (O.o sameN1 x y)] [] := by
  obtain ⟨key, doc⟩ := x
  obtain ⟨key', doc'⟩ := y
  have hne : (⟨key, doc⟩ : Ndoc) ≠ ⟨key', doc'⟩ → O.o sameN1 ⟨key, doc⟩ ⟨key', doc'⟩ = false := fun h => by simp only [O.h]; exact sameN1_no h
  have heq : (⟨key, doc⟩ : Ndoc) = ⟨key', doc'⟩ → O.o sameN1 ⟨key, doc⟩ ⟨key', doc'⟩ = true := fun h => by simp only [O.h]; exact sameN1_iff.2 h
  have hsd : O.o sameDoc doc doc' = true ↔ doc = doc' := by rw [O.h]; exact sameDoc_iff
  refine go (fn := Go.Proofs.Tryz.f93) (n := 15) (rv := [ResultVar.tmp 4]) rfl (by decide) rfl (by decide +kernel) rfl rfl (by simp) fun F L C => ?_
  cbv
  (repeat' first | (refine Named.i64 ?_ fun _ _ => ?_; (focus lia); cbv) | (refine CallThen.bool (C.fn (sameW_fn O doc doc' hx)) (fun _ => ?_) (fun _ => ?_) <;> cbv) | (refine Named.len fun _ _ hq => ?_; (try simp only [List.length_append, List.length_take, List.length_drop, List.length_replicate, List.length_set] at hq); cbv) | (refine Named.mk fun _ _ => ?_; cbv) | (refine Br.t ?_ ?_; (focus first | assumption | lia); cbv) | (refine Br.f ?_ ?_; (focus first | assumption | lia); cbv) | (refine Br.mk (fun _ => ?_) (fun _ => ?_) <;> cbv) | (refine Need.mk ?_ ?_; rotate_left; cbv) | (refine RetThen.mk [] [] ?_; cbv))
  all_goals refine ⟨?_, trivial⟩
  all_goals first
    | (refine hne fun h => ?_; simp only [Ndoc.mk.injEq] at h; clear hne heq; grind)
    | (refine heq ?_; simp only [Ndoc.mk.injEq]; clear hne heq; grind)
    | trace_state
theorem equalC2_fn (O : Opq) (d e : List Change) (hd : d.length ≤ 9223372036854775807) (hdd : ∀ c ∈ d, c.doc.length ≤ 9223372036854775807) : Fn prog 97 [.sl false 0 false 4 (O.o (Chs.enc O) d), .sl false 0 false 4 (O.o (Chs.enc O) e), .fn 95 [] []] [] [.bool (O.o sameC d e)] [] := by
  have hlen := Chs.len O d
  have hlen2 := Chs.len O e
  obtain ⟨N, hN⟩ : ∃ N : Nat, N = d.length := ⟨_, rfl⟩
  obtain ⟨z, hz⟩ : ∃ z : Nat, z = 0 := ⟨_, rfl⟩
  refine go (fn := Go.Proofs.Tryz.f97) (n := 29) (rv := [ResultVar.tmp 6]) rfl (by decide) rfl (by decide +kernel) rfl rfl (by simp) fun F L C => ?_
  cbv
  (repeat' first | (refine Named.i64 ?_ fun _ _ => ?_; (focus lia); cbv) | (refine Named.len fun _ _ hq => ?_; (try simp only [List.length_append, List.length_take, List.length_drop, List.length_replicate, List.length_set] at hq); cbv) | (refine Named.mk fun _ _ => ?_; cbv) | (refine Br.t ?_ ?_; (focus first | assumption | lia); cbv) | (refine Br.f ?_ ?_; (focus first | assumption | lia); cbv) | (refine Br.mk (fun _ => ?_) (fun _ => ?_) <;> cbv) | (refine Need.mk ?_ ?_; rotate_left; cbv) | (refine RetThen.mk [] [] ?_; cbv))
  all_goals try first
    | (refine ⟨?_, trivial⟩; simp only [O.h]; exact sameC_len (by lia))
  refine LoopThen.mk (C.loopAt (ι := Nat) [(6, 9), (17, 31)] (fun k => [(6, .bool false), (17, .int .i64 k)]) (fun _ => [])
    (fun k => k ≤ d.length ∧ ∀ (j : Nat), j < k → d[j]? = e[j]?) (fun k => N - k) (by decide +kernel) (Start.mk z [] [] ⟨by lia, fun j hj => by omega⟩ (by cbv; (repeat' apply And.intro) <;> first | exact True.intro | exact WkR.refl _ | rfl | lia)) ?_)
  intro k g
  cbv
  have g1 : k ≤ d.length := g.1
  have g2 := g.2
  clear g
  by_cases hk : k < d.length
  · obtain ⟨x, hx⟩ : ∃ x, d[k]? = some x := ⟨d[k], by simp [hk]⟩
    obtain ⟨y, hy⟩ : ∃ y, e[k]? = some y := ⟨e[k]'(by lia), by simp⟩
    have hxd := hdd x (List.mem_of_getElem? hx)
    have hne : x ≠ y → O.o sameC d e = false := fun h => by simp only [O.h]; exact sameC_at (k := k) (by rw [hx, hy]; simpa using h)
    have hst : x = y → ∀ (j : Nat), j < k + 1 → d[j]? = e[j]? := fun h j hj => by
      by_cases ej : j = k
      · subst ej; rw [hx, hy, h]
      · exact g2 j (by omega)
    have hso : O.o sameCh1 x y = true ↔ x = y := by rw [O.h]; exact sameCh1_iff
    clear g2 hdd
    (repeat' first | (refine Named.i64 ?_ fun _ _ => ?_; (focus lia); cbv) | (refine Ex.known O (Change.enc O) rfl hx ?_ ?_; (focus lia); cbv) | (refine Ex.known O (Change.enc O) rfl hy ?_ ?_; (focus lia); cbv) | (refine CallThen.bool (C.fn (ssame2_fn O x y hxd)) (fun _ => ?_) (fun _ => ?_) <;> cbv) | (refine Back.up [] [] ?_ ?_ fun _ _ => ?_; rotate_left 2; cbv; refine And.intro ?_ ?_) | (refine Named.len fun _ _ hq => ?_; (try simp only [List.length_append, List.length_take, List.length_drop, List.length_replicate, List.length_set] at hq); cbv) | (refine Named.mk fun _ _ => ?_; cbv) | (refine Br.t ?_ ?_; (focus first | assumption | lia); cbv) | (refine Br.f ?_ ?_; (focus first | assumption | lia); cbv) | (refine Br.mk (fun _ => ?_) (fun _ => ?_) <;> cbv) | (refine Need.mk ?_ ?_; rotate_left; cbv) | (refine RetThen.mk [] [] ?_; cbv))
    all_goals (repeat' apply And.intro)
    all_goals try first
      | exact True.intro
      | exact WkR.refl _
      | (clear hx hy hne hst hso; lia)
    all_goals first
      | (refine hne fun h => ?_; rename_i hh; have hh : O.o sameCh1 x y = false := hh; rw [hso.2 h] at hh; cases hh; done)
      | (refine hst (hso.1 ?_); assumption)
      | trace_state
  · (repeat' first | (refine Named.i64 ?_ fun _ _ => ?_; (focus lia); cbv) | (refine Named.len fun _ _ hq => ?_; (try simp only [List.length_append, List.length_take, List.length_drop, List.length_replicate, List.length_set] at hq); cbv) | (refine Named.mk fun _ _ => ?_; cbv) | (refine Br.t ?_ ?_; (focus first | assumption | lia); cbv) | (refine Br.f ?_ ?_; (focus first | assumption | lia); cbv) | (refine Br.mk (fun _ => ?_) (fun _ => ?_) <;> cbv) | (refine Need.mk ?_ ?_; rotate_left; cbv) | (refine RetThen.mk [] [] ?_; cbv))
    all_goals (repeat' apply And.intro)
    all_goals try first
      | exact True.intro
      | lia
    all_goals
      simp only [O.h]
      exact sameC_all (by clear g2; lia) fun j hj => g2 j (by clear g2; lia)
theorem equalN_fn (O : Opq) (d e : List Ndoc) (hd : d.length ≤ 9223372036854775807) (hdd : ∀ c ∈ d, c.doc.length ≤ 9223372036854775807) : Fn prog 96 [.sl false 0 false 2 (O.o (Nms.enc O) d), .sl false 0 false 2 (O.o (Nms.enc O) e), .fn 93 [] []] [] [.bool (O.o sameNs d e)] [] := by
  have hlen := Nms.len O d
  have hlen2 := Nms.len O e
  obtain ⟨N, hN⟩ : ∃ N : Nat, N = d.length := ⟨_, rfl⟩
  obtain ⟨z, hz⟩ : ∃ z : Nat, z = 0 := ⟨_, rfl⟩
  refine go (fn := Go.Proofs.Tryz.f96) (n := 29) (rv := [ResultVar.tmp 6]) rfl (by decide) rfl (by decide +kernel) rfl rfl (by simp) fun F L C => ?_
  cbv
  (repeat' first | (refine Named.i64 ?_ fun _ _ => ?_; (focus lia); cbv) | (refine Named.len fun _ _ hq => ?_; (try simp only [List.length_append, List.length_take, List.length_drop, List.length_replicate, List.length_set] at hq); cbv) | (refine Named.mk fun _ _ => ?_; cbv) | (refine Br.t ?_ ?_; (focus first | assumption | lia); cbv) | (refine Br.f ?_ ?_; (focus first | assumption | lia); cbv) | (refine Br.mk (fun _ => ?_) (fun _ => ?_) <;> cbv) | (refine Need.mk ?_ ?_; rotate_left; cbv) | (refine RetThen.mk [] [] ?_; cbv))
  all_goals try first
    | (refine ⟨?_, trivial⟩; simp only [O.h]; exact sameNs_len (by lia))
  refine LoopThen.mk (C.loopAt (ι := Nat) [(6, 9), (17, 31)] (fun k => [(6, .bool false), (17, .int .i64 k)]) (fun _ => [])
    (fun k => k ≤ d.length ∧ ∀ (j : Nat), j < k → d[j]? = e[j]?) (fun k => N - k) (by decide +kernel) (Start.mk z [] [] ⟨by lia, fun j hj => by omega⟩ (by cbv; (repeat' apply And.intro) <;> first | exact True.intro | exact WkR.refl _ | rfl | lia)) ?_)
  intro k g
  cbv
  have g1 : k ≤ d.length := g.1
  have g2 := g.2
  clear g
  by_cases hk : k < d.length
  · obtain ⟨x, hx⟩ : ∃ x, d[k]? = some x := ⟨d[k], by simp [hk]⟩
    obtain ⟨y, hy⟩ : ∃ y, e[k]? = some y := ⟨e[k]'(by lia), by simp⟩
    have hxd := hdd x (List.mem_of_getElem? hx)
    have hne : x ≠ y → O.o sameNs d e = false := fun h => by simp only [O.h]; exact sameNs_at (k := k) (by rw [hx, hy]; simpa using h)
    have hst : x = y → ∀ (j : Nat), j < k + 1 → d[j]? = e[j]? := fun h j hj => by
      by_cases ej : j = k
      · subst ej; rw [hx, hy, h]
      · exact g2 j (by omega)
    have hso : O.o sameN1 x y = true ↔ x = y := by rw [O.h]; exact sameN1_iff
    clear g2 hdd
    (repeat' first | (refine Named.i64 ?_ fun _ _ => ?_; (focus lia); cbv) | (refine Ex.known O (Ndoc.enc O) rfl hx ?_ ?_; (focus lia); cbv) | (refine Ex.known O (Ndoc.enc O) rfl hy ?_ ?_; (focus lia); cbv) | (refine CallThen.bool (C.fn (ssame1_fn O x y hxd)) (fun _ => ?_) (fun _ => ?_) <;> cbv) | (refine Back.up [] [] ?_ ?_ fun _ _ => ?_; rotate_left 2; cbv; refine And.intro ?_ ?_) | (refine Named.len fun _ _ hq => ?_; (try simp only [List.length_append, List.length_take, List.length_drop, List.length_replicate, List.length_set] at hq); cbv) | (refine Named.mk fun _ _ => ?_; cbv) | (refine Br.t ?_ ?_; (focus first | assumption | lia); cbv) | (refine Br.f ?_ ?_; (focus first | assumption | lia); cbv) | (refine Br.mk (fun _ => ?_) (fun _ => ?_) <;> cbv) | (refine Need.mk ?_ ?_; rotate_left; cbv) | (refine RetThen.mk [] [] ?_; cbv))
    all_goals (repeat' apply And.intro)
    all_goals try first
      | exact True.intro
      | exact WkR.refl _
      | (clear hx hy hne hst hso; lia)
    all_goals first
      | (refine hne fun h => ?_; rename_i hh; have hh : O.o sameN1 x y = false := hh; rw [hso.2 h] at hh; cases hh; done)
      | (refine hst (hso.1 ?_); assumption)
      | trace_state
  · (repeat' first | (refine Named.i64 ?_ fun _ _ => ?_; (focus lia); cbv) | (refine Named.len fun _ _ hq => ?_; (try simp only [List.length_append, List.length_take, List.length_drop, List.length_replicate, List.length_set] at hq); cbv) | (refine Named.mk fun _ _ => ?_; cbv) | (refine Br.t ?_ ?_; (focus first | assumption | lia); cbv) | (refine Br.f ?_ ?_; (focus first | assumption | lia); cbv) | (refine Br.mk (fun _ => ?_) (fun _ => ?_) <;> cbv) | (refine Need.mk ?_ ?_; rotate_left; cbv) | (refine RetThen.mk [] [] ?_; cbv))
    all_goals (repeat' apply And.intro)
    all_goals try first
      | exact True.intro
      | lia
    all_goals
      simp only [O.h]
      exact sameNs_all (by clear g2; lia) fun j hj => g2 j (by clear g2; lia)
set_option maxHeartbeats 1000000 in
theorem sansw_fn (O : Opq) (a b : Answer) (h1 : a.doc.length ≤ 9223372036854775807) (h2 : a.docs.length ≤ 9223372036854775807 ∧ ∀ c ∈ a.docs, c.doc.length ≤ 9223372036854775807) (h3 : a.news.length ≤ 9223372036854775807 ∧ ∀ c ∈ a.news, c.doc.length ≤ 9223372036854775807) (h4 : a.keys.length ≤ 9223372036854775807) : Fn prog 37 [.agg (a.enc O), .agg (b.enc O)] [] [.bool (O.o sameAns a b)] [] := by
  have k1 := sameW_fn O a.doc b.doc h1
  have k2 := equalN_fn O a.docs b.docs h2.1 h2.2
  have k3 := equalC2_fn O a.news b.news h3.1 h3.2
  have k4 := equalP_fn O a.keys b.keys h4
  have hQ : O.o sameAns a b = true ↔ a.code = b.code ∧ a.has = b.has ∧ a.n = b.n ∧ a.total = b.total ∧ O.o sameDoc a.doc b.doc = true ∧ O.o sameNs a.docs b.docs = true ∧ O.o sameC a.news b.news = true ∧ O.o sameP a.keys b.keys = true := by
    simp only [O.h, sameAns, sameDoc, sameNs, sameC, sameP, decide_eq_true_eq]
    obtain ⟨c, h, d, ds, ns, n, t, ks⟩ := a
    obtain ⟨c', h', d', ds', ns', n', t', ks'⟩ := b
    simp only [Answer.mk.injEq]
    constructor
    · rintro ⟨a, b, c, d, e, f, g, h⟩; exact ⟨a, b, f, g, c, d, e, h⟩
    · rintro ⟨a, b, f, g, c, d, e, h⟩; exact ⟨a, b, c, d, e, f, g, h⟩
  obtain ⟨s1, e1⟩ : ∃ s, s = O.o sameDoc a.doc b.doc := ⟨_, rfl⟩
  obtain ⟨s2, e2⟩ : ∃ s, s = O.o sameNs a.docs b.docs := ⟨_, rfl⟩
  obtain ⟨s3, e3⟩ : ∃ s, s = O.o sameC a.news b.news := ⟨_, rfl⟩
  obtain ⟨s4, e4⟩ : ∃ s, s = O.o sameP a.keys b.keys := ⟨_, rfl⟩
  obtain ⟨Q, eQ⟩ : ∃ s, s = O.o sameAns a b := ⟨_, rfl⟩
  rw [← e1] at k1 hQ
  rw [← e2] at k2 hQ
  rw [← e3] at k3 hQ
  rw [← e4] at k4 hQ
  rw [← eQ] at hQ ⊢
  clear e1 e2 e3 e4 eQ h1 h2 h3 h4
  obtain ⟨c, h, d, ds, ns, n, t, ks⟩ := a
  obtain ⟨c', h', d', ds', ns', n', t', ks'⟩ := b
  replace hQ : Q = true ↔ c = c' ∧ h = h' ∧ n = n' ∧ t = t' ∧ s1 = true ∧ s2 = true ∧ s3 = true ∧ s4 = true := hQ
  cases h <;> cases h'
  all_goals
    refine go (fn := Go.Proofs.Tryz.f37) (n := 61) (rv := [ResultVar.tmp 4]) rfl (by decide) rfl (by decide +kernel) rfl rfl (by simp) fun F L C => ?_
    cbv
    (repeat' first | (refine Named.i64 ?_ fun _ _ => ?_; (focus lia); cbv) | (refine CallThen.bool (C.fn (k1)) (fun _ => ?_) (fun _ => ?_) <;> cbv) | (refine CallThen.bool (C.fn (k2)) (fun _ => ?_) (fun _ => ?_) <;> cbv) | (refine CallThen.bool (C.fn (k3)) (fun _ => ?_) (fun _ => ?_) <;> cbv) | (refine CallThen.bool (C.fn (k4)) (fun _ => ?_) (fun _ => ?_) <;> cbv) | (refine Named.len fun _ _ hq => ?_; (try simp only [List.length_append, List.length_take, List.length_drop, List.length_replicate, List.length_set] at hq); cbv) | (refine Named.mk fun _ _ => ?_; cbv) | (refine Br.t ?_ ?_; (focus first | assumption | lia); cbv) | (refine Br.f ?_ ?_; (focus first | assumption | lia); cbv) | (refine Br.mk (fun _ => ?_) (fun _ => ?_) <;> cbv) | (refine Need.mk ?_ ?_; rotate_left; cbv) | (refine RetThen.mk [] [] ?_; cbv))
    all_goals try (exfalso; clear hQ k1 k2 k3 k4; lia)
    all_goals
      refine ⟨?_, trivial⟩
      clear k1 k2 k3 k4
      first
        | (refine hQ.2 ?_; simp_all; done)
        | (cases hb : Q with
           | false => rfl
           | true => exfalso; have := hQ.1 hb; clear hQ; simp_all; done)
        | trace_state
end Go.Sym
namespace Go.Sym
open Go Go.Proofs.Tryz
set_option maxRecDepth 100000
open Classical in
noncomputable def smallD (l : List Ndoc) : Bool := decide (l.length ≤ 40 ∧ ∀ (j : Nat) (n : Ndoc), l[j]? = some n → n.doc.length ≤ 20)
theorem smallD_iff {l : List Ndoc} : smallD l = true ↔ l.length ≤ 40 ∧ ∀ n ∈ l, n.doc.length ≤ 20 := by
  simp only [smallD, decide_eq_true_eq]
  constructor
  · rintro ⟨h, k⟩
    refine ⟨h, fun n hn => ?_⟩
    obtain ⟨i, hi, rfl⟩ := List.getElem_of_mem hn
    exact k i _ (List.getElem?_eq_getElem hi)
  · rintro ⟨h, k⟩
    exact ⟨h, fun j n hn => k n (List.mem_of_getElem? hn)⟩
theorem ldocs_fn (O : Opq) (l : List Ndoc) (hl : l.length ≤ 9223372036854775807) : Fn prog 27 [.sl false 0 false 2 (O.o (Nms.enc O) l)] [] [.bool (O.o smallD l)] [] := by
  have hlen := Nms.len O l
  have hno : ¬ (l.length ≤ 40 ∧ ∀ (j : Nat) (n : Ndoc), l[j]? = some n → n.doc.length ≤ 20) → O.o smallD l = false := fun h => by
    simp only [O.h, smallD, decide_eq_false_iff_not]; exact h
  have hyes : (l.length ≤ 40 ∧ ∀ (j : Nat) (n : Ndoc), l[j]? = some n → n.doc.length ≤ 20) → O.o smallD l = true := fun h => by
    simp only [O.h, smallD, decide_eq_true_eq]; exact h
  obtain ⟨Q, eQ⟩ : ∃ Q, Q = O.o smallD l := ⟨_, rfl⟩
  rw [← eQ] at hno hyes ⊢
  obtain ⟨N, hN⟩ : ∃ N : Nat, N = l.length := ⟨_, rfl⟩
  obtain ⟨z, hz⟩ : ∃ z : Nat, z = 0 := ⟨_, rfl⟩
  clear eQ
  refine go (fn := Go.Proofs.Tryz.f27) (n := 23) (rv := [ResultVar.tmp 2]) rfl (by decide) rfl (by decide +kernel) rfl rfl (by simp) fun F L C => ?_
  cbv
  (repeat' first | (refine Named.i64 ?_ fun _ _ => ?_; (focus lia); cbv) | (refine Named.len fun _ _ hq => ?_; (try simp only [List.length_append, List.length_take, List.length_drop, List.length_replicate, List.length_set] at hq); cbv) | (refine Named.mk fun _ _ => ?_; cbv) | (refine Br.t ?_ ?_; (focus first | assumption | lia); cbv) | (refine Br.f ?_ ?_; (focus first | assumption | lia); cbv) | (refine Br.mk (fun _ => ?_) (fun _ => ?_) <;> cbv) | (refine Need.mk ?_ ?_; rotate_left; cbv) | (refine RetThen.mk [] [] ?_; cbv))
  refine LoopThen.mk (C.loopAt (ι := Nat) [(2, 20)] (fun i => [(2, .bool false), (3, .int .i64 i)]) (fun _ => [])
    (fun i => (i ≤ N ∧ i ≤ 40) ∧ ∀ (j : Nat) (n : Ndoc), j < i → l[j]? = some n → n.doc.length ≤ 20) (fun i => N - i) (by decide +kernel) (Start.mk z [] [] ⟨by lia, fun j n hj => by omega⟩ (by cbv; (repeat' apply And.intro) <;> first | exact True.intro | exact WkR.refl _ | rfl | lia)) ?_)
  intro i g
  cbv
  have g1 : i ≤ N ∧ i ≤ 40 := g.1
  have g2 := g.2
  clear g
  by_cases hi : i < l.length
  · obtain ⟨x, hx⟩ : ∃ x, l[i]? = some x := ⟨l[i], by simp [hi]⟩
    have hno1 : 20 < x.doc.length → Q = false := fun h => hno fun k => by have := k.2 i x hx; omega
    have hno2 : 40 < l.length → Q = false := fun h => hno fun k => by have := k.1; omega
    have hst : x.doc.length ≤ 20 → ∀ (j : Nat) (n : Ndoc), j < i + 1 → l[j]? = some n → n.doc.length ≤ 20 := fun h j n hj hn => by
      by_cases e : j = i
      · subst e; rw [hx] at hn; cases hn; exact h
      · exact g2 j n (by omega) hn
    have hdl : (O.o Doc.enc x.doc).length = x.doc.length := by rw [O.h, Doc.enc_len]
    clear hno hyes g2
    obtain ⟨xk, xd⟩ := x
    replace hno1 : 20 < xd.length → Q = false := hno1
    replace hst : xd.length ≤ 20 → ∀ (j : Nat) (n : Ndoc), j < i + 1 → l[j]? = some n → n.doc.length ≤ 20 := hst
    replace hdl : (O.o Doc.enc xd).length = xd.length := hdl
    (repeat' first | (refine Named.i64 ?_ fun _ _ => ?_; (focus lia); cbv) | (refine Ex.known O (Ndoc.enc O) rfl hx ?_ ?_; (focus lia); cbv) | (refine Back.up [] [] ?_ ?_ fun _ _ => ?_; rotate_left 2; cbv; refine And.intro ?_ ?_) | (refine Named.len fun _ _ hq => ?_; (try simp only [List.length_append, List.length_take, List.length_drop, List.length_replicate, List.length_set] at hq); cbv) | (refine Named.mk fun _ _ => ?_; cbv) | (refine Br.t ?_ ?_; (focus first | assumption | lia); cbv) | (refine Br.f ?_ ?_; (focus first | assumption | lia); cbv) | (refine Br.mk (fun _ => ?_) (fun _ => ?_) <;> cbv) | (refine Need.mk ?_ ?_; rotate_left; cbv) | (refine RetThen.mk [] [] ?_; cbv))
    all_goals (repeat' apply And.intro)
    all_goals try first
      | exact True.intro
      | exact WkR.refl _
      | (clear hx hno1 hno2 hst; lia)
      | exact hno1 (by clear hx hno1 hno2 hst; lia)
      | exact hno2 (by clear hx hno1 hno2 hst; lia)
      | exact hst (by clear hx hno1 hno2 hst; lia)
    all_goals trace_state
  · have hy : l.length ≤ 40 → Q = true := fun h => hyes ⟨h, fun j n hn => g2 j n (by have := (List.getElem?_eq_some_iff.1 hn).1; omega) hn⟩
    have hn : ¬ l.length ≤ 40 → Q = false := fun h => hno fun k => h k.1
    clear hno hyes g2
    (repeat' first | (refine Named.i64 ?_ fun _ _ => ?_; (focus lia); cbv) | (refine Named.len fun _ _ hq => ?_; (try simp only [List.length_append, List.length_take, List.length_drop, List.length_replicate, List.length_set] at hq); cbv) | (refine Named.mk fun _ _ => ?_; cbv) | (refine Br.t ?_ ?_; (focus first | assumption | lia); cbv) | (refine Br.f ?_ ?_; (focus first | assumption | lia); cbv) | (refine Br.mk (fun _ => ?_) (fun _ => ?_) <;> cbv) | (refine Need.mk ?_ ?_; rotate_left; cbv) | (refine RetThen.mk [] [] ?_; cbv))
    all_goals first
      | (exfalso; clear hy hn; lia)
      | exact ⟨hy (by clear hy hn; lia), trivial⟩
      | exact ⟨(hy (by clear hy hn; lia)).symm, trivial⟩
      | exact ⟨hn (by clear hy hn; lia), trivial⟩
      | trace_state
end Go.Sym
