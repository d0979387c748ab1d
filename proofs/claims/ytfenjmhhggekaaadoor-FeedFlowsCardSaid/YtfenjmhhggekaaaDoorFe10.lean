/- Which feeds are light; which are alike. -/
import Derived.Test.YtfenjmhhggekaaaDoorFe2
import Derived.Test.YtfenjmhhggekaaaDoorFeC
import Derived.Test.YtfenjmhhggekaaaDoorPa11
set_option linter.all false
set_option linter.unusedVariables false
set_option linter.unusedSimpArgs false
namespace Go.Sym
open Go Go.Proofs.Tryd
set_option maxRecDepth 100000
theorem lightC_fn (O : Opq) (l : List Change) (hl : l.length ≤ 9223372036854775807) : Fn prog 45 [.sl false 0 false 4 (O.o (Chs.enc O) l)] [] [.bool (O.o lightC l)] [] := by
  have hlen := Chs.len O l
  obtain ⟨N, hN⟩ : ∃ N : Nat, N = l.length := ⟨_, rfl⟩
  obtain ⟨z, hz⟩ : ∃ z : Nat, z = 0 := ⟨_, rfl⟩
  refine go (fn := Go.Proofs.Tryd.f45) (n := 23) (rv := [ResultVar.tmp 2]) rfl (by decide) rfl (by decide +kernel) rfl rfl (by simp) fun F L C => ?_
  cbv
  (repeat' first | (refine Named.i64 ?_ fun _ _ => ?_; (focus lia); cbv) | (refine Named.len fun _ _ hq => ?_; (try simp only [List.length_append, List.length_take, List.length_drop, List.length_replicate, List.length_set] at hq); cbv) | (refine Named.mk fun _ _ => ?_; cbv) | (refine Br.t ?_ ?_; (focus first | assumption | lia); cbv) | (refine Br.f ?_ ?_; (focus first | assumption | lia); cbv) | (refine Br.mk (fun _ => ?_) (fun _ => ?_) <;> cbv) | (refine Need.mk ?_ ?_; rotate_left; cbv) | (refine RetThen.mk [] [] ?_; cbv))
  refine LoopThen.mk (C.loopAt (ι := Nat) [(2, 20)] (fun k => [(2, .bool false), (3, .int .i64 k)]) (fun _ => [])
    (fun k => k ≤ l.length ∧ k ≤ 60 ∧ ∀ (j : Nat) c, j < k → l[j]? = some c → c.doc.length ≤ 20) (fun k => N - k) (by decide +kernel) (Start.mk z [] [] ⟨by lia, by lia, fun j c hj => by omega⟩ (by cbv; (repeat' apply And.intro) <;> first | exact True.intro | exact WkR.refl _ | rfl | lia)) ?_)
  intro k g
  cbv
  have g1 : k ≤ l.length := g.1
  have g2 : k ≤ 60 := g.2.1
  have g3 := g.2.2
  clear g
  by_cases hk : k < l.length
  · obtain ⟨x, hx⟩ : ∃ x, l[k]? = some x := ⟨l[k], by simp [hk]⟩
    have hn2 : (O.o Doc.enc x.doc).length = x.doc.length := by rw [O.h, Doc.enc_len]
    (repeat' first | (refine Named.i64 ?_ fun _ _ => ?_; (focus lia); cbv) | (refine Ex.known O (Change.enc O) rfl hx ?_ ?_; (focus lia); cbv) | (refine Back.up [] [] ?_ ?_ fun _ _ => ?_; rotate_left 2; cbv; refine And.intro ?_ ?_) | (refine Named.len fun _ _ hq => ?_; (try simp only [List.length_append, List.length_take, List.length_drop, List.length_replicate, List.length_set] at hq); cbv) | (refine Named.mk fun _ _ => ?_; cbv) | (refine Br.t ?_ ?_; (focus first | assumption | lia); cbv) | (refine Br.f ?_ ?_; (focus first | assumption | lia); cbv) | (refine Br.mk (fun _ => ?_) (fun _ => ?_) <;> cbv) | (refine Need.mk ?_ ?_; rotate_left; cbv) | (refine RetThen.mk [] [] ?_; cbv))
    all_goals (repeat' apply And.intro)
    all_goals try first
      | exact True.intro
      | exact WkR.refl _
      | (clear hx g3; lia)
    all_goals simp only [O.h] at *
    all_goals first
      | exact lightC_step g3 hx (by clear hx g3; lia)
      | exact lightC_bad (List.mem_of_getElem? hx) (by clear hx g3; lia)
      | (rw [lightC_long (by clear hx g3; lia)]; done)
      | (have h60 : ¬ l.length ≤ 60 := by (clear hx g3; lia)
         rw [lightC_long (by omega)]
         first | rfl | (clear hx g3; lia) | (symm; rw [decide_eq_false_iff_not]; clear hx g3; lia))
      | trace_state
  · (repeat' first | (refine Named.i64 ?_ fun _ _ => ?_; (focus lia); cbv) | (refine Named.len fun _ _ hq => ?_; (try simp only [List.length_append, List.length_take, List.length_drop, List.length_replicate, List.length_set] at hq); cbv) | (refine Named.mk fun _ _ => ?_; cbv) | (refine Br.t ?_ ?_; (focus first | assumption | lia); cbv) | (refine Br.f ?_ ?_; (focus first | assumption | lia); cbv) | (refine Br.mk (fun _ => ?_) (fun _ => ?_) <;> cbv) | (refine Need.mk ?_ ?_; rotate_left; cbv) | (refine RetThen.mk [] [] ?_; cbv))
    all_goals (repeat' apply And.intro)
    all_goals try first
      | exact True.intro
      | lia
    all_goals
      simp only [O.h]
      exact lightC_ok (by clear g3; lia) fun j c hj => g3 j c (by clear g3; lia)
theorem lightF_fn (O : Opq) (f : Feed) (hl : f.changes.length ≤ 9223372036854775807) : Fn prog 31 [.agg (f.enc O)] [] [.bool (O.o lightF f)] [] := by
  have hlen := Subs.len O f.subs
  have h1 : O.o lightC f.changes = lightC f.changes := by rw [O.h]
  refine go (fn := Go.Proofs.Tryd.f31) (n := 11) (rv := [ResultVar.tmp 2]) rfl (by decide) rfl (by decide +kernel) rfl rfl (by simp) fun F L C => ?_
  cbv
  (repeat' first | (refine Named.i64 ?_ fun _ _ => ?_; (focus lia); cbv) | (refine CallThen.bool (C.fn (lightC_fn O f.changes hl)) (fun _ => ?_) (fun _ => ?_) <;> cbv) | (refine Named.len fun _ _ hq => ?_; (try simp only [List.length_append, List.length_take, List.length_drop, List.length_replicate, List.length_set] at hq); cbv) | (refine Named.mk fun _ _ => ?_; cbv) | (refine Br.t ?_ ?_; (focus first | assumption | lia); cbv) | (refine Br.f ?_ ?_; (focus first | assumption | lia); cbv) | (refine Br.mk (fun _ => ?_) (fun _ => ?_) <;> cbv) | (refine Need.mk ?_ ?_; rotate_left; cbv) | (refine RetThen.mk [] [] ?_; cbv))
  all_goals
    refine ⟨?_, trivial⟩
    simp only [O.h] at *
  · rw [lightF, decide_eq_true_eq]; exact ⟨by assumption, by lia⟩
  · rw [lightF, decide_eq_false_iff_not]; rintro ⟨a, b⟩; lia
  · rename_i h; rw [lightF, decide_eq_false_iff_not, h]; rintro ⟨a, b⟩; cases a
theorem news_fn (O : Opq) (d e : List Change) (hd : d.length ≤ 1099511627776) (hdd : ∀ c ∈ d, c.doc.length ≤ 1099511627776) : Fn prog 38 [.sl false 0 false 4 (O.o (Chs.enc O) d), .sl false 0 false 4 (O.o (Chs.enc O) e)] [] [.bool (O.o sameC d e)] [] := by
  have hlen := Chs.len O d
  have hlen2 := Chs.len O e
  obtain ⟨N, hN⟩ : ∃ N : Nat, N = d.length := ⟨_, rfl⟩
  obtain ⟨z, hz⟩ : ∃ z : Nat, z = 0 := ⟨_, rfl⟩
  refine go (fn := Go.Proofs.Tryd.f38) (n := 66) (rv := [ResultVar.tmp 4]) rfl (by decide) rfl (by decide +kernel) rfl rfl (by simp) fun F L C => ?_
  cbv
  (repeat' first | (refine Named.i64 ?_ fun _ _ => ?_; (focus lia); cbv) | (refine Named.len fun _ _ hq => ?_; (try simp only [List.length_append, List.length_take, List.length_drop, List.length_replicate, List.length_set] at hq); cbv) | (refine Named.mk fun _ _ => ?_; cbv) | (refine Br.t ?_ ?_; (focus first | assumption | lia); cbv) | (refine Br.f ?_ ?_; (focus first | assumption | lia); cbv) | (refine Br.mk (fun _ => ?_) (fun _ => ?_) <;> cbv) | (refine Need.mk ?_ ?_; rotate_left; cbv) | (refine RetThen.mk [] [] ?_; cbv))
  all_goals try first
    | (refine ⟨?_, trivial⟩; simp only [O.h]; exact sameC_len (by lia))
  refine LoopThen.mk (C.loopAt (ι := Nat) [(4, 5), (11, 67)] (fun k => [(4, .bool false), (5, .int .i64 k)]) (fun _ => [])
    (fun k => k ≤ d.length ∧ ∀ (j : Nat), j < k → d[j]? = e[j]?) (fun k => N - k) (by decide +kernel) (Start.mk z [] [] ⟨by lia, fun j hj => by omega⟩ (by cbv; (repeat' apply And.intro) <;> first | exact True.intro | exact WkR.refl _ | rfl | lia)) ?_)
  intro k g
  cbv
  have g1 : k ≤ d.length := g.1
  have g2 := g.2
  clear g
  by_cases hk : k < d.length
  · obtain ⟨x, hx⟩ : ∃ x, d[k]? = some x := ⟨d[k], by simp [hk]⟩
    obtain ⟨y, hy⟩ : ∃ y, e[k]? = some y := ⟨e[k]'(by lia), by simp⟩
    have hxd := hdd x (List.mem_of_getElem? hx)
    have hne : x ≠ y → O.o sameC d e = false := fun h => by simp only [O.h]; exact sameC_at (k := k) (by rw [hx, hy]; simpa using h)
    have hst : x = y → ∀ (j : Nat), j < k + 1 → d[j]? = e[j]? := fun h j hj => by
      by_cases ej : j = k
      · subst ej; rw [hx, hy, h]
      · exact g2 j (by omega)
    clear g2 hdd
    obtain ⟨p, key, has, doc⟩ := x
    obtain ⟨p', key', has', doc'⟩ := y
    have hsd : O.o sameDoc doc doc' = true ↔ doc = doc' := by rw [O.h]; exact sameDoc_iff
    cases has <;> cases has' <;> (repeat' first | (refine Named.i64 ?_ fun _ _ => ?_; (focus lia); cbv) | (refine Ex.known O (Change.enc O) rfl hx ?_ ?_; (focus lia); cbv) | (refine Ex.known O (Change.enc O) rfl hy ?_ ?_; (focus lia); cbv) | (refine CallThen.bool (C.fn (rsame_fn O doc doc' hxd)) (fun _ => ?_) (fun _ => ?_) <;> cbv) | (refine Back.up [] [] ?_ ?_ fun _ _ => ?_; rotate_left 2; cbv; refine And.intro ?_ ?_) | (refine Named.len fun _ _ hq => ?_; (try simp only [List.length_append, List.length_take, List.length_drop, List.length_replicate, List.length_set] at hq); cbv) | (refine Named.mk fun _ _ => ?_; cbv) | (refine Br.t ?_ ?_; (focus first | assumption | lia); cbv) | (refine Br.f ?_ ?_; (focus first | assumption | lia); cbv) | (refine Br.mk (fun _ => ?_) (fun _ => ?_) <;> cbv) | (refine Need.mk ?_ ?_; rotate_left; cbv) | (refine RetThen.mk [] [] ?_; cbv))
    all_goals (repeat' apply And.intro)
    all_goals try first
      | exact True.intro
      | exact WkR.refl _
      | (clear hx hy hne hst hsd; lia)
    all_goals first
      | (refine hne fun h => ?_; cases h; clear hx hy hst; simp_all; done)
      | (refine hne fun h => ?_; simp only [Change.mk.injEq] at h; clear hx hy hst; grind)
      | (refine hst ?_; simp only [Change.mk.injEq]; clear hx hy hne hst; grind)
      | trace_state
  · (repeat' first | (refine Named.i64 ?_ fun _ _ => ?_; (focus lia); cbv) | (refine Named.len fun _ _ hq => ?_; (try simp only [List.length_append, List.length_take, List.length_drop, List.length_replicate, List.length_set] at hq); cbv) | (refine Named.mk fun _ _ => ?_; cbv) | (refine Br.t ?_ ?_; (focus first | assumption | lia); cbv) | (refine Br.f ?_ ?_; (focus first | assumption | lia); cbv) | (refine Br.mk (fun _ => ?_) (fun _ => ?_) <;> cbv) | (refine Need.mk ?_ ?_; rotate_left; cbv) | (refine RetThen.mk [] [] ?_; cbv))
    all_goals (repeat' apply And.intro)
    all_goals try first
      | exact True.intro
      | lia
    all_goals
      simp only [O.h]
      exact sameC_all (by clear g2; lia) fun j hj => g2 j (by clear g2; lia)
end Go.Sym
