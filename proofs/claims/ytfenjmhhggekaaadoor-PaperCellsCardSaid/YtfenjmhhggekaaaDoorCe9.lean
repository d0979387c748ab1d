/- The document of a cell. -/
import Derived.Test.YtfenjmhhggekaaaDoorCe8
set_option linter.all false
set_option linter.unusedVariables false
set_option linter.unusedSimpArgs false
namespace Go.Sym
open Go Go.Proofs.Tryd
set_option maxRecDepth 100000
set_option maxHeartbeats 1000000 in
theorem pof_fn (O : Opq) (c : Cel) (h : c.size ≤ 1099511627) : Fn prog 40 [.agg (c.en O)] [] [.sl false 0 false 6 (O.o Doc.enc (O.o ofR c)), .int .i64 (O.o ofE c)] [] := by
  have hck := ccheck_fn O c (by omega)
  rw [Cel.en_eq O] at hck
  have hce : O.o celErr c = celErr c := by rw [O.h]
  have hbad := of_bad O (c := c)
  have hgood := of_good O (c := c)
  have hln : c.list.length ≤ 1099511627 := Nat.le_trans (Cel.len_size c) h
  obtain ⟨Q, eQ⟩ : ∃ Q, Q = O.o Doc.enc (O.o ofR c) := ⟨_, rfl⟩
  obtain ⟨w, ew⟩ : ∃ w, w = O.o ofE c := ⟨_, rfl⟩
  obtain ⟨v, ev⟩ : ∃ v, v = O.o celErr c := ⟨_, rfl⟩
  rw [← ev] at hck hce
  rw [← eQ, ← ew] at hbad ⊢
  rw [← ew] at hgood
  rw [← hce] at hbad hgood
  obtain ⟨k, n, t, l⟩ := c
  simp only [Cel.kind, Cel.list] at hbad hgood hln
  have hlen := Cels.en_len O l
  obtain ⟨N, hN⟩ : ∃ N : Nat, N = l.length := ⟨_, rfl⟩
  obtain ⟨z, hz⟩ : ∃ z : Nat, z = 0 := ⟨_, rfl⟩
  have hz0 : O.o (ofRows fieldOf l) z = [] := by rw [O.h, hz]; rfl
  have hfl : ∀ k : Nat, k ≤ N → (O.o (ofRows fieldOf l) k).length ≤ 1099511627 := fun k h => by rw [O.h, ofRows_len (by omega)]; omega
  clear ev hce h
  by_cases h0 : v = 0 ∧ k = 3
  · obtain ⟨h1, h2⟩ := h0
    refine go (fn := Go.Proofs.Tryd.f40) (n := 57) (rv := [ResultVar.tmp 2, ResultVar.tmp 3]) rfl (by decide) rfl (by decide +kernel) rfl rfl (by simp) fun F L C => ?_
    cbv
    (repeat' first | (refine Named.i64 ?_ fun _ _ => ?_; (focus lia); cbv) | (refine CallThen.mk _ _ (C.fn (hck)) ?_; cbv) | (refine Named.len fun _ _ hq => ?_; (try simp only [List.length_append, List.length_take, List.length_drop, List.length_replicate, List.length_set] at hq); cbv) | (refine Named.mk fun _ _ => ?_; cbv) | (refine Br.t ?_ ?_; (focus first | assumption | lia); cbv) | (refine Br.f ?_ ?_; (focus first | assumption | lia); cbv) | (refine Br.mk (fun _ => ?_) (fun _ => ?_) <;> cbv) | (refine Need.mk ?_ ?_; rotate_left; cbv) | (refine RetThen.mk [] [] ?_; cbv))
    all_goals try (exfalso; clear hbad hgood; lia)
    refine LoopThen.mk (C.loopAt (ι := Nat) [(2, 4), (6, 6), (18, 53)] (fun k => [(4, .ref 50), (18, .int .i64 k)]) (fun i => [(50, .arr 0 none 6 (O.o (ofRows fieldOf l) i)), (192, .box [.int .i64 k, .int .i64 n, .str t, .sl false 0 false 4 (O.o Cels.enc l)])])
      (fun i => i ≤ N ∧ ∀ (j : Nat) y, j < i → l[j]? = some y → isFieldC y = true) (fun k => N - k) (by decide +kernel) (Start.mk z [(50, .nil 6)] [] ⟨by lia, fun j y hj => by omega⟩ ?_) ?_)
    · cbv
      (repeat' apply And.intro) <;> first | exact True.intro | exact WkR.refl _ | rfl | exact hz0 | lia
    intro i g
    cbv
    have g1 : i ≤ N := g.1
    have g2 := g.2
    clear g
    by_cases hi : i < l.length
    · obtain ⟨x, hx⟩ : ∃ x, l[i]? = some x := ⟨l[i], by simp [hi]⟩
      have hst := ofRows_more O (f := fieldOf) hx
      have hno : isFieldC x = false → w = 5 ∧ Q = [] := fun h => hbad fun k => allF_not hx h k.2.2.1
      have hyes : isFieldC x = true → ∀ (j : Nat) y, j < i + 1 → l[j]? = some y → isFieldC y = true := fun h => allF_step hx h g2
      have hll := hfl i g1
      clear hfl hbad hgood hck g2 hz0 eQ ew
      by_cases h2 : x.list.length = 2
      · obtain ⟨a, b, hab, ha, hb⟩ := list2at h2
        have hno2 : x.kind ≠ 3 → w = 5 ∧ Q = [] := fun h => hno (by simp [isFieldC, h])
        have hno3 : a.kind ≠ 2 → w = 5 ∧ Q = [] := fun h => hno (by simp [isFieldC, hab, h])
        have hyes2 : x.kind = 3 → a.kind = 2 → ∀ (j : Nat) y, j < i + 1 → l[j]? = some y → isFieldC y = true := fun h1 h2 => hyes (by simp [isFieldC, hab, h1, h2])
        have hfo : fieldOf x = ⟨a.text, O.o valOf b⟩ := by rw [O.h]; simp only [fieldOf, part0, part1, hab]; rfl
        rw [hfo] at hst
        have hlx := Cels.en_len O x.list
        obtain ⟨kx, nx, tx, lx⟩ := x
        simp only [Cel.kind, Cel.list] at hno2 hyes2 ha hb h2 hlx
        clear hno hyes hab hfo
        (repeat' first | (refine Named.i64 ?_ fun _ _ => ?_; (focus lia); cbv) | (refine Ex.cel O hx ?_ ?_; (focus lia); cbv) | (refine Ex.cel O ha ?_ ?_; (focus lia); cbv) | (refine Ex.cel O hb ?_ ?_; (focus lia); cbv) | (refine CallThen.mk _ _ (C.fn (valueOf_fn O _)) ?_; cbv) | (refine Back.up [(50, .loc 3456)] [] ?_ ?_ fun _ _ => ?_; rotate_left 2; cbv; refine And.intro ?_ ?_) | (refine Named.len fun _ _ hq => ?_; (try simp only [List.length_append, List.length_take, List.length_drop, List.length_replicate, List.length_set] at hq); cbv) | (refine Named.mk fun _ _ => ?_; cbv) | (refine Br.t ?_ ?_; (focus first | assumption | lia); cbv) | (refine Br.f ?_ ?_; (focus first | assumption | lia); cbv) | (refine Br.mk (fun _ => ?_) (fun _ => ?_) <;> cbv) | (refine Need.mk ?_ ?_; rotate_left; cbv) | (refine RetThen.mk [] [] ?_; cbv))
        all_goals (repeat' apply And.intro)
        all_goals try first
          | exact True.intro
          | exact WkR.refl _
          | (clear hst hyes2 hno2 hno3 hx ha hb; lia)
          | (simp only [List.length_cons, List.length_nil]; clear hst hyes2 hno2 hno3 hx ha hb; lia)
        all_goals first
          | exact (hno2 (by assumption)).2
          | exact (hno2 (by assumption)).1
          | exact (hno3 (by assumption)).2
          | exact (hno3 (by assumption)).1
          | exact hyes2 (by assumption) (by assumption)
          | (refine WkR.of_eq ?_; subst_vars; exact hst)
          | trace_state
      · have hno2 : w = 5 ∧ Q = [] := hno (by
          rw [isFieldC]; split
          · rename_i e; rw [e] at h2; exact absurd rfl h2
          · simp)
        have hlx := Cels.en_len O x.list
        obtain ⟨kx, nx, tx, lx⟩ := x
        simp only [Cel.list] at hlx h2
        clear hno hyes hst
        (repeat' first | (refine Named.i64 ?_ fun _ _ => ?_; (focus lia); cbv) | (refine Ex.cel O hx ?_ ?_; (focus lia); cbv) | (refine Named.len fun _ _ hq => ?_; (try simp only [List.length_append, List.length_take, List.length_drop, List.length_replicate, List.length_set] at hq); cbv) | (refine Named.mk fun _ _ => ?_; cbv) | (refine Br.t ?_ ?_; (focus first | assumption | lia); cbv) | (refine Br.f ?_ ?_; (focus first | assumption | lia); cbv) | (refine Br.mk (fun _ => ?_) (fun _ => ?_) <;> cbv) | (refine Need.mk ?_ ?_; rotate_left; cbv) | (refine RetThen.mk [] [] ?_; cbv))
        all_goals first
          | (exfalso; clear hx hno2; lia)
          | exact ⟨hno2.2, hno2.1, trivial⟩
          | (clear hx hno2; lia)
          | trace_state
    · have hke := ofRows_all O (f := fieldOf) (l := l) (k := i) (by omega)
      have hal := allF_end (by omega) g2
      have hll := hfl i g1
      have hD : (O.o (List.map fieldOf) l).length = l.length := by rw [O.h]; simp
      have hc2 := checkL_fn O (O.o (List.map fieldOf) l) (by omega)
      rw [← hke] at hc2
      have hd : O.o docErr (O.o (List.map fieldOf) l) = 0 ↔ may (l.map fieldOf) = true := by simp only [O.h]; exact docErr_zero
      obtain ⟨e, he⟩ : ∃ e, e = O.o docErr (O.o (List.map fieldOf) l) := ⟨_, rfl⟩
      rw [← he] at hc2 hd
      have hn : e ≠ 0 → w = 5 ∧ Q = [] := fun h => hbad fun k => h (hd.2 k.2.2.2)
      have hy : e = 0 → w = 0 ∧ Q = O.o (ofRows fieldOf l) i := fun h => by
        have := hgood ⟨h1, h2, hal, hd.1 h⟩
        refine ⟨this.1, ?_⟩
        rw [eQ, this.2, hke]; simp only [O.h]
      clear hfl hbad hgood hck g2 hz0 eQ ew he hd hal hke
      (repeat' first | (refine Named.i64 ?_ fun _ _ => ?_; (focus lia); cbv) | (refine CallThen.mk _ _ (C.fn (hc2)) ?_; cbv) | (refine RetThen.mk [] [50] ?_; cbv) | (refine Named.len fun _ _ hq => ?_; (try simp only [List.length_append, List.length_take, List.length_drop, List.length_replicate, List.length_set] at hq); cbv) | (refine Named.mk fun _ _ => ?_; cbv) | (refine Br.t ?_ ?_; (focus first | assumption | lia); cbv) | (refine Br.f ?_ ?_; (focus first | assumption | lia); cbv) | (refine Br.mk (fun _ => ?_) (fun _ => ?_) <;> cbv) | (refine Need.mk ?_ ?_; rotate_left; cbv) | (refine RetThen.mk [] [] ?_; cbv))
      all_goals first
        | exact ⟨(hn (by assumption)).2, (hn (by assumption)).1, trivial⟩
        | (refine ⟨.of_eq ?_, (hy (by assumption)).1, trivial⟩; rw [(hy (by assumption)).2]; symm; assumption)
        | (clear hn hy; lia)
        | trace_state
  · have hb := hbad fun k => h0 ⟨k.1, k.2.1⟩
    clear hbad hgood eQ ew hfl hz0
    refine go (fn := Go.Proofs.Tryd.f40) (n := 57) (rv := [ResultVar.tmp 2, ResultVar.tmp 3]) rfl (by decide) rfl (by decide +kernel) rfl rfl (by simp) fun F L C => ?_
    cbv
    (repeat' first | (refine Named.i64 ?_ fun _ _ => ?_; (focus lia); cbv) | (refine CallThen.mk _ _ (C.fn (hck)) ?_; cbv) | (refine Named.len fun _ _ hq => ?_; (try simp only [List.length_append, List.length_take, List.length_drop, List.length_replicate, List.length_set] at hq); cbv) | (refine Named.mk fun _ _ => ?_; cbv) | (refine Br.t ?_ ?_; (focus first | assumption | lia); cbv) | (refine Br.f ?_ ?_; (focus first | assumption | lia); cbv) | (refine Br.mk (fun _ => ?_) (fun _ => ?_) <;> cbv) | (refine Need.mk ?_ ?_; rotate_left; cbv) | (refine RetThen.mk [] [] ?_; cbv))
    all_goals first
      | (exfalso; clear hb; lia)
      | exact ⟨hb.2, hb.1, trivial⟩
      | trace_state
end Go.Sym
