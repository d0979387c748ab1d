/- Are two lists alike, by the document. -/
import Derived.Test.YtdbpdcnpolaojaaGreatDoorJ7
import Derived.Test.YtdbpdcnpolaojaaGreatDoorJ18
set_option linter.all false
set_option linter.unusedVariables false
set_option linter.unusedSimpArgs false
namespace Go.Sym
open Go Go.Proofs.Tryz
set_option maxRecDepth 100000
theorem r12docs_fn (O : Opq) (d e : List Ndoc) (hd : d.length ≤ 9223372036854775807) (hdd : ∀ c ∈ d, c.doc.length ≤ 9223372036854775807) : Fn prog 35 [.sl false 0 false 2 (O.o (Nms.enc O) d), .sl false 0 false 2 (O.o (Nms.enc O) e)] [] [.bool (O.o sameNs d e)] [] := by
  have hlen := Nms.len O d
  have hlen2 := Nms.len O e
  obtain ⟨N, hN⟩ : ∃ N : Nat, N = d.length := ⟨_, rfl⟩
  obtain ⟨z, hz⟩ : ∃ z : Nat, z = 0 := ⟨_, rfl⟩
  refine go (fn := Go.Proofs.Tryz.f35) (n := 40) (rv := [ResultVar.tmp 4]) rfl (by decide) rfl (by decide +kernel) rfl rfl (by simp) fun F L C => ?_
  cbv
  (repeat' first | (refine Named.i64 ?_ fun _ _ => ?_; (focus lia); cbv) | (refine Named.len fun _ _ hq => ?_; (try simp only [List.length_append, List.length_take, List.length_drop, List.length_replicate, List.length_set] at hq); cbv) | (refine Named.mk fun _ _ => ?_; cbv) | (refine Br.t ?_ ?_; (focus first | assumption | lia); cbv) | (refine Br.f ?_ ?_; (focus first | assumption | lia); cbv) | (refine Br.mk (fun _ => ?_) (fun _ => ?_) <;> cbv) | (refine Need.mk ?_ ?_; rotate_left; cbv) | (refine RetThen.mk [] [] ?_; cbv))
  all_goals try first
    | (refine ⟨?_, trivial⟩; simp only [O.h]; exact sameNs_len (by lia))
  refine LoopThen.mk (C.loopAt (ι := Nat) [(4, 5), (11, 41)] (fun k => [(4, .bool false), (5, .int .i64 k)]) (fun _ => [])
    (fun k => k ≤ d.length ∧ ∀ (j : Nat), j < k → d[j]? = e[j]?) (fun k => N - k) (by decide +kernel) (Start.mk z [] [] ⟨by lia, fun j hj => by omega⟩ (by cbv; (repeat' apply And.intro) <;> first | exact True.intro | exact WkR.refl _ | rfl | lia)) ?_)
  intro k g
  cbv
  have g1 : k ≤ d.length := g.1
  have g2 := g.2
  clear g
  by_cases hk : k < d.length
  · obtain ⟨x, hx⟩ : ∃ x, d[k]? = some x := ⟨d[k], by simp [hk]⟩
    obtain ⟨y, hy⟩ : ∃ y, e[k]? = some y := ⟨e[k]'(by lia), by simp⟩
    have hxd := hdd x (List.mem_of_getElem? hx)
    have hne : x ≠ y → O.o sameNs d e = false := fun h => by simp only [O.h]; exact sameNs_at (k := k) (by rw [hx, hy]; simpa using h)
    have hst : x = y → ∀ (j : Nat), j < k + 1 → d[j]? = e[j]? := fun h j hj => by
      by_cases ej : j = k
      · subst ej; rw [hx, hy, h]
      · exact g2 j (by omega)
    clear g2 hdd
    obtain ⟨key, doc⟩ := x
    obtain ⟨key', doc'⟩ := y
    have hsd : O.o sameDoc doc doc' = true ↔ doc = doc' := by rw [O.h]; exact sameDoc_iff
    (repeat' first | (refine Named.i64 ?_ fun _ _ => ?_; (focus lia); cbv) | (refine Ex.known O (Ndoc.enc O) rfl hx ?_ ?_; (focus lia); cbv) | (refine Ex.known O (Ndoc.enc O) rfl hy ?_ ?_; (focus lia); cbv) | (refine CallThen.bool (C.fn (rsameW_fn O doc doc' hxd)) (fun _ => ?_) (fun _ => ?_) <;> cbv) | (refine Back.up [] [] ?_ ?_ fun _ _ => ?_; rotate_left 2; cbv; refine And.intro ?_ ?_) | (refine Named.len fun _ _ hq => ?_; (try simp only [List.length_append, List.length_take, List.length_drop, List.length_replicate, List.length_set] at hq); cbv) | (refine Named.mk fun _ _ => ?_; cbv) | (refine Br.t ?_ ?_; (focus first | assumption | lia); cbv) | (refine Br.f ?_ ?_; (focus first | assumption | lia); cbv) | (refine Br.mk (fun _ => ?_) (fun _ => ?_) <;> cbv) | (refine Need.mk ?_ ?_; rotate_left; cbv) | (refine RetThen.mk [] [] ?_; cbv))
    all_goals (repeat' apply And.intro)
    all_goals try first
      | exact True.intro
      | exact WkR.refl _
      | (clear hx hy hne hst hsd; lia)
    all_goals first
      | (refine hne fun h => ?_; simp only [Ndoc.mk.injEq] at h; clear hx hy hst; grind)
      | (refine hst ?_; simp only [Ndoc.mk.injEq]; clear hx hy hne hst; grind)
      | trace_state
  · (repeat' first | (refine Named.i64 ?_ fun _ _ => ?_; (focus lia); cbv) | (refine Named.len fun _ _ hq => ?_; (try simp only [List.length_append, List.length_take, List.length_drop, List.length_replicate, List.length_set] at hq); cbv) | (refine Named.mk fun _ _ => ?_; cbv) | (refine Br.t ?_ ?_; (focus first | assumption | lia); cbv) | (refine Br.f ?_ ?_; (focus first | assumption | lia); cbv) | (refine Br.mk (fun _ => ?_) (fun _ => ?_) <;> cbv) | (refine Need.mk ?_ ?_; rotate_left; cbv) | (refine RetThen.mk [] [] ?_; cbv))
    all_goals (repeat' apply And.intro)
    all_goals try first
      | exact True.intro
      | lia
    all_goals
      simp only [O.h]
      exact sameNs_all (by clear g2; lia) fun j hj => g2 j (by clear g2; lia)
theorem rpairs_fn (O : Opq) (d e : List PairK) (hd : d.length ≤ 9223372036854775807) : Fn prog 89 [.sl false 0 false 2 (O.o Prs.enc d), .sl false 0 false 2 (O.o Prs.enc e)] [] [.bool (O.o sameP d e)] [] := by
  have hlen := Prs.len O d
  have hlen2 := Prs.len O e
  obtain ⟨N, hN⟩ : ∃ N : Nat, N = d.length := ⟨_, rfl⟩
  obtain ⟨z, hz⟩ : ∃ z : Nat, z = 0 := ⟨_, rfl⟩
  refine go (fn := Go.Proofs.Tryz.f89) (n := 24) (rv := [ResultVar.tmp 4]) rfl (by decide) rfl (by decide +kernel) rfl rfl (by simp) fun F L C => ?_
  cbv
  (repeat' first | (refine Named.i64 ?_ fun _ _ => ?_; (focus lia); cbv) | (refine Named.len fun _ _ hq => ?_; (try simp only [List.length_append, List.length_take, List.length_drop, List.length_replicate, List.length_set] at hq); cbv) | (refine Named.mk fun _ _ => ?_; cbv) | (refine Br.t ?_ ?_; (focus first | assumption | lia); cbv) | (refine Br.f ?_ ?_; (focus first | assumption | lia); cbv) | (refine Br.mk (fun _ => ?_) (fun _ => ?_) <;> cbv) | (refine Need.mk ?_ ?_; rotate_left; cbv) | (refine RetThen.mk [] [] ?_; cbv))
  all_goals try first
    | (refine ⟨?_, trivial⟩; simp only [O.h]; exact sameP_len (by lia))
  refine LoopThen.mk (C.loopAt (ι := Nat) [(4, 5), (11, 25)] (fun k => [(4, .bool false), (5, .int .i64 k)]) (fun _ => [])
    (fun k => k ≤ d.length ∧ ∀ (j : Nat), j < k → d[j]? = e[j]?) (fun k => N - k) (by decide +kernel) (Start.mk z [] [] ⟨by lia, fun j hj => by omega⟩ (by cbv; (repeat' apply And.intro) <;> first | exact True.intro | exact WkR.refl _ | rfl | lia)) ?_)
  intro k g
  cbv
  have g1 : k ≤ d.length := g.1
  have g2 := g.2
  clear g
  by_cases hk : k < d.length
  · obtain ⟨x, hx⟩ : ∃ x, d[k]? = some x := ⟨d[k], by simp [hk]⟩
    obtain ⟨y, hy⟩ : ∃ y, e[k]? = some y := ⟨e[k]'(by lia), by simp⟩
    have hne : x ≠ y → O.o sameP d e = false := fun h => by simp only [O.h]; exact sameP_at (k := k) (by rw [hx, hy]; simpa using h)
    have hst : x = y → ∀ (j : Nat), j < k + 1 → d[j]? = e[j]? := fun h j hj => by
      by_cases ej : j = k
      · subst ej; rw [hx, hy, h]
      · exact g2 j (by omega)
    clear g2
    obtain ⟨key, val⟩ := x
    obtain ⟨key', val'⟩ := y
    (repeat' first | (refine Named.i64 ?_ fun _ _ => ?_; (focus lia); cbv) | (refine Ex.known O PairK.enc rfl hx ?_ ?_; (focus lia); cbv) | (refine Ex.known O PairK.enc rfl hy ?_ ?_; (focus lia); cbv) | (refine Back.up [] [] ?_ ?_ fun _ _ => ?_; rotate_left 2; cbv; refine And.intro ?_ ?_) | (refine Named.len fun _ _ hq => ?_; (try simp only [List.length_append, List.length_take, List.length_drop, List.length_replicate, List.length_set] at hq); cbv) | (refine Named.mk fun _ _ => ?_; cbv) | (refine Br.t ?_ ?_; (focus first | assumption | lia); cbv) | (refine Br.f ?_ ?_; (focus first | assumption | lia); cbv) | (refine Br.mk (fun _ => ?_) (fun _ => ?_) <;> cbv) | (refine Need.mk ?_ ?_; rotate_left; cbv) | (refine RetThen.mk [] [] ?_; cbv))
    all_goals (repeat' apply And.intro)
    all_goals try first
      | exact True.intro
      | exact WkR.refl _
      | (clear hx hy hne hst; lia)
    all_goals first
      | (refine hne fun h => ?_; simp only [PairK.mk.injEq] at h; clear hx hy hst; grind)
      | (refine hst ?_; simp only [PairK.mk.injEq]; clear hx hy hne hst; grind)
      | trace_state
  · (repeat' first | (refine Named.i64 ?_ fun _ _ => ?_; (focus lia); cbv) | (refine Named.len fun _ _ hq => ?_; (try simp only [List.length_append, List.length_take, List.length_drop, List.length_replicate, List.length_set] at hq); cbv) | (refine Named.mk fun _ _ => ?_; cbv) | (refine Br.t ?_ ?_; (focus first | assumption | lia); cbv) | (refine Br.f ?_ ?_; (focus first | assumption | lia); cbv) | (refine Br.mk (fun _ => ?_) (fun _ => ?_) <;> cbv) | (refine Need.mk ?_ ?_; rotate_left; cbv) | (refine RetThen.mk [] [] ?_; cbv))
    all_goals (repeat' apply And.intro)
    all_goals try first
      | exact True.intro
      | lia
    all_goals
      simp only [O.h]
      exact sameP_all (by clear g2; lia) fun j hj => g2 j (by clear g2; lia)
theorem newsW_fn (O : Opq) (d e : List Change) (hd : d.length ≤ 9223372036854775807) (hdd : ∀ c ∈ d, c.doc.length ≤ 9223372036854775807) : Fn prog 36 [.sl false 0 false 4 (O.o (Chs.enc O) d), .sl false 0 false 4 (O.o (Chs.enc O) e)] [] [.bool (O.o sameC d e)] [] := by
  have hlen := Chs.len O d
  have hlen2 := Chs.len O e
  obtain ⟨N, hN⟩ : ∃ N : Nat, N = d.length := ⟨_, rfl⟩
  obtain ⟨z, hz⟩ : ∃ z : Nat, z = 0 := ⟨_, rfl⟩
  refine go (fn := Go.Proofs.Tryz.f36) (n := 66) (rv := [ResultVar.tmp 4]) rfl (by decide) rfl (by decide +kernel) rfl rfl (by simp) fun F L C => ?_
  cbv
  (repeat' first | (refine Named.i64 ?_ fun _ _ => ?_; (focus lia); cbv) | (refine Named.len fun _ _ hq => ?_; (try simp only [List.length_append, List.length_take, List.length_drop, List.length_replicate, List.length_set] at hq); cbv) | (refine Named.mk fun _ _ => ?_; cbv) | (refine Br.t ?_ ?_; (focus first | assumption | lia); cbv) | (refine Br.f ?_ ?_; (focus first | assumption | lia); cbv) | (refine Br.mk (fun _ => ?_) (fun _ => ?_) <;> cbv) | (refine Need.mk ?_ ?_; rotate_left; cbv) | (refine RetThen.mk [] [] ?_; cbv))
  all_goals try first
    | (refine ⟨?_, trivial⟩; simp only [O.h]; exact sameC_len (by lia))
  refine LoopThen.mk (C.loopAt (ι := Nat) [(4, 5), (11, 67)] (fun k => [(4, .bool false), (5, .int .i64 k)]) (fun _ => [])
    (fun k => k ≤ d.length ∧ ∀ (j : Nat), j < k → d[j]? = e[j]?) (fun k => N - k) (by decide +kernel) (Start.mk z [] [] ⟨by lia, fun j hj => by omega⟩ (by cbv; (repeat' apply And.intro) <;> first | exact True.intro | exact WkR.refl _ | rfl | lia)) ?_)
  intro k g
  cbv
  have g1 : k ≤ d.length := g.1
  have g2 := g.2
  clear g
  by_cases hk : k < d.length
  · obtain ⟨x, hx⟩ : ∃ x, d[k]? = some x := ⟨d[k], by simp [hk]⟩
    obtain ⟨y, hy⟩ : ∃ y, e[k]? = some y := ⟨e[k]'(by lia), by simp⟩
    have hxd := hdd x (List.mem_of_getElem? hx)
    have hne : x ≠ y → O.o sameC d e = false := fun h => by simp only [O.h]; exact sameC_at (k := k) (by rw [hx, hy]; simpa using h)
    have hst : x = y → ∀ (j : Nat), j < k + 1 → d[j]? = e[j]? := fun h j hj => by
      by_cases ej : j = k
      · subst ej; rw [hx, hy, h]
      · exact g2 j (by omega)
    clear g2 hdd
    obtain ⟨p, key, has, doc⟩ := x
    obtain ⟨p', key', has', doc'⟩ := y
    have hsd : O.o sameDoc doc doc' = true ↔ doc = doc' := by rw [O.h]; exact sameDoc_iff
    cases has <;> cases has' <;> (repeat' first | (refine Named.i64 ?_ fun _ _ => ?_; (focus lia); cbv) | (refine Ex.known O (Change.enc O) rfl hx ?_ ?_; (focus lia); cbv) | (refine Ex.known O (Change.enc O) rfl hy ?_ ?_; (focus lia); cbv) | (refine CallThen.bool (C.fn (rsameW_fn O doc doc' hxd)) (fun _ => ?_) (fun _ => ?_) <;> cbv) | (refine Back.up [] [] ?_ ?_ fun _ _ => ?_; rotate_left 2; cbv; refine And.intro ?_ ?_) | (refine Named.len fun _ _ hq => ?_; (try simp only [List.length_append, List.length_take, List.length_drop, List.length_replicate, List.length_set] at hq); cbv) | (refine Named.mk fun _ _ => ?_; cbv) | (refine Br.t ?_ ?_; (focus first | assumption | lia); cbv) | (refine Br.f ?_ ?_; (focus first | assumption | lia); cbv) | (refine Br.mk (fun _ => ?_) (fun _ => ?_) <;> cbv) | (refine Need.mk ?_ ?_; rotate_left; cbv) | (refine RetThen.mk [] [] ?_; cbv))
    all_goals (repeat' apply And.intro)
    all_goals try first
      | exact True.intro
      | exact WkR.refl _
      | (clear hx hy hne hst hsd; lia)
    all_goals first
      | (refine hne fun h => ?_; cases h; clear hx hy hst; simp_all; done)
      | (refine hne fun h => ?_; simp only [Change.mk.injEq] at h; clear hx hy hst; grind)
      | (refine hst ?_; simp only [Change.mk.injEq]; clear hx hy hne hst; grind)
      | trace_state
  · (repeat' first | (refine Named.i64 ?_ fun _ _ => ?_; (focus lia); cbv) | (refine Named.len fun _ _ hq => ?_; (try simp only [List.length_append, List.length_take, List.length_drop, List.length_replicate, List.length_set] at hq); cbv) | (refine Named.mk fun _ _ => ?_; cbv) | (refine Br.t ?_ ?_; (focus first | assumption | lia); cbv) | (refine Br.f ?_ ?_; (focus first | assumption | lia); cbv) | (refine Br.mk (fun _ => ?_) (fun _ => ?_) <;> cbv) | (refine Need.mk ?_ ?_; rotate_left; cbv) | (refine RetThen.mk [] [] ?_; cbv))
    all_goals (repeat' apply And.intro)
    all_goals try first
      | exact True.intro
      | lia
    all_goals
      simp only [O.h]
      exact sameC_all (by clear g2; lia) fun j hj => g2 j (by clear g2; lia)
end Go.Sym
namespace Go.Sym
open Go Go.Proofs.Tryz
set_option maxRecDepth 100000
open Classical in
noncomputable def sameAns (a b : Answer) : Bool := decide (a = b)
set_option maxHeartbeats 1000000 in
theorem ransw_fn (O : Opq) (a b : Answer) (h1 : a.doc.length ≤ 9223372036854775807) (h2 : a.docs.length ≤ 9223372036854775807 ∧ ∀ c ∈ a.docs, c.doc.length ≤ 9223372036854775807) (h3 : a.news.length ≤ 9223372036854775807 ∧ ∀ c ∈ a.news, c.doc.length ≤ 9223372036854775807) (h4 : a.keys.length ≤ 9223372036854775807) : Fn prog 33 [.agg (a.enc O), .agg (b.enc O)] [] [.bool (O.o sameAns a b)] [] := by
  have k1 := rsameW_fn O a.doc b.doc h1
  have k2 := r12docs_fn O a.docs b.docs h2.1 h2.2
  have k3 := newsW_fn O a.news b.news h3.1 h3.2
  have k4 := rpairs_fn O a.keys b.keys h4
  have hQ : O.o sameAns a b = true ↔ a.code = b.code ∧ a.has = b.has ∧ a.n = b.n ∧ a.total = b.total ∧ O.o sameDoc a.doc b.doc = true ∧ O.o sameNs a.docs b.docs = true ∧ O.o sameC a.news b.news = true ∧ O.o sameP a.keys b.keys = true := by
    simp only [O.h, sameAns, sameDoc, sameNs, sameC, sameP, decide_eq_true_eq]
    obtain ⟨c, h, d, ds, ns, n, t, ks⟩ := a
    obtain ⟨c', h', d', ds', ns', n', t', ks'⟩ := b
    simp only [Answer.mk.injEq]
    constructor
    · rintro ⟨a, b, c, d, e, f, g, h⟩; exact ⟨a, b, f, g, c, d, e, h⟩
    · rintro ⟨a, b, f, g, c, d, e, h⟩; exact ⟨a, b, c, d, e, f, g, h⟩
  obtain ⟨s1, e1⟩ : ∃ s, s = O.o sameDoc a.doc b.doc := ⟨_, rfl⟩
  obtain ⟨s2, e2⟩ : ∃ s, s = O.o sameNs a.docs b.docs := ⟨_, rfl⟩
  obtain ⟨s3, e3⟩ : ∃ s, s = O.o sameC a.news b.news := ⟨_, rfl⟩
  obtain ⟨s4, e4⟩ : ∃ s, s = O.o sameP a.keys b.keys := ⟨_, rfl⟩
  obtain ⟨Q, eQ⟩ : ∃ s, s = O.o sameAns a b := ⟨_, rfl⟩
  rw [← e1] at k1 hQ
  rw [← e2] at k2 hQ
  rw [← e3] at k3 hQ
  rw [← e4] at k4 hQ
  rw [← eQ] at hQ ⊢
  clear e1 e2 e3 e4 eQ h1 h2 h3 h4
  obtain ⟨c, h, d, ds, ns, n, t, ks⟩ := a
  obtain ⟨c', h', d', ds', ns', n', t', ks'⟩ := b
  replace hQ : Q = true ↔ c = c' ∧ h = h' ∧ n = n' ∧ t = t' ∧ s1 = true ∧ s2 = true ∧ s3 = true ∧ s4 = true := hQ
  cases h <;> cases h'
  all_goals
    refine go (fn := Go.Proofs.Tryz.f33) (n := 57) (rv := [ResultVar.tmp 4]) rfl (by decide) rfl (by decide +kernel) rfl rfl (by simp) fun F L C => ?_
    cbv
    (repeat' first | (refine Named.i64 ?_ fun _ _ => ?_; (focus lia); cbv) | (refine CallThen.bool (C.fn (k1)) (fun _ => ?_) (fun _ => ?_) <;> cbv) | (refine CallThen.bool (C.fn (k2)) (fun _ => ?_) (fun _ => ?_) <;> cbv) | (refine CallThen.bool (C.fn (k3)) (fun _ => ?_) (fun _ => ?_) <;> cbv) | (refine CallThen.bool (C.fn (k4)) (fun _ => ?_) (fun _ => ?_) <;> cbv) | (refine Named.len fun _ _ hq => ?_; (try simp only [List.length_append, List.length_take, List.length_drop, List.length_replicate, List.length_set] at hq); cbv) | (refine Named.mk fun _ _ => ?_; cbv) | (refine Br.t ?_ ?_; (focus first | assumption | lia); cbv) | (refine Br.f ?_ ?_; (focus first | assumption | lia); cbv) | (refine Br.mk (fun _ => ?_) (fun _ => ?_) <;> cbv) | (refine Need.mk ?_ ?_; rotate_left; cbv) | (refine RetThen.mk [] [] ?_; cbv))
    all_goals try (exfalso; clear hQ k1 k2 k3 k4; lia)
    all_goals
      refine ⟨?_, trivial⟩
      clear k1 k2 k3 k4
      first
        | (refine hQ.2 ?_; simp_all; done)
        | (cases hb : Q with
           | false => rfl
           | true => exfalso; have := hQ.1 hb; clear hQ; simp_all; done)
        | trace_state
end Go.Sym
