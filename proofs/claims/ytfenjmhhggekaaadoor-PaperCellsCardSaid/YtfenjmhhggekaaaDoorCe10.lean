/- The document of a cell, by the document. -/
import Derived.Test.YtfenjmhhggekaaaDoorCe9
import Derived.Test.YtfenjmhhggekaaaDoorCe1
set_option linter.all false
set_option linter.unusedVariables false
set_option linter.unusedSimpArgs false
namespace Go.Sym
open Go Go.Proofs.Tryd
set_option maxRecDepth 100000
theorem rsameC_fn (O : Opq) (c d : Cel) (h : c.size ≤ 1099511627776) : Fn prog 52 [.agg (c.en O), .agg (d.en O)] [] [.bool (O.o sameCel c d)] [] := by
  rw [← Cel.en_eq O, ← Cel.en_eq O]
  exact rsameCel_fn O c.size c d (Nat.le_refl _) fun e he => Nat.le_trans (Cel.len_size e) (by omega)
set_option maxHeartbeats 2000000 in
theorem rof_fn (O : Opq) (c : Cel) (h : c.size ≤ 1099511627) (hs : ∀ f ∈ c.list.map rfieldOf, f.path.size ≤ 9223372036854775807) : Fn prog 41 [.agg (c.en O)] [] [.sl false 0 false 6 (O.o Doc.enc (O.o rofR c)), .bool (O.o rofB c)] [] := by
  have hbad := rof_bad O (c := c)
  have hgood := rof_good O (c := c)
  have hln : c.list.length ≤ 1099511627 := Nat.le_trans (Cel.len_size c) h
  have hsm := fun (d : Doc) (hd : may d = true) => rsameC_fn O (O.o docC d) c (by rw [O.h]; have := docC_size hd; omega)
  have hsi : ∀ d : Doc, O.o sameCel (O.o docC d) c = true ↔ docC d = c := fun d => by simp only [O.h]; exact sameCel_iff
  obtain ⟨Q, eQ⟩ : ∃ Q, Q = O.o Doc.enc (O.o rofR c) := ⟨_, rfl⟩
  obtain ⟨w, ew⟩ : ∃ w, w = O.o rofB c := ⟨_, rfl⟩
  rw [← eQ, ← ew] at hbad ⊢
  rw [← ew] at hgood
  obtain ⟨S, eS⟩ : ∃ S : Doc → Bool, S = fun d => O.o sameCel (O.o docC d) c := ⟨_, rfl⟩
  have eS2 : ∀ d, S d = O.o sameCel (O.o docC d) c := fun d => by rw [eS]
  simp only [← eS2] at hsm hsi
  have hbad2 : ¬ (c.list.all two = true ∧ may (c.list.map rfieldOf) = true ∧ S (c.list.map rfieldOf) = true) → w = false ∧ Q = [] := fun k => hbad fun k2 => k ⟨k2.1, k2.2.1, (hsi _).2 k2.2.2⟩
  have hgood2 : c.list.all two = true ∧ may (c.list.map rfieldOf) = true ∧ S (c.list.map rfieldOf) = true → w = true ∧ O.o rofR c = c.list.map rfieldOf := fun k => hgood ⟨k.1, k.2.1, (hsi _).1 k.2.2⟩
  clear hbad hgood hsi eS2 eS
  obtain ⟨k, n, t, l⟩ := c
  simp only [Cel.list] at hbad2 hgood2 hln hs
  have hlen := Cels.en_len O l
  obtain ⟨N, hN⟩ : ∃ N : Nat, N = l.length := ⟨_, rfl⟩
  obtain ⟨z, hz⟩ : ∃ z : Nat, z = 0 := ⟨_, rfl⟩
  have hz0 : O.o (ofRows rfieldOf l) z = [] := by rw [O.h, hz]; rfl
  have hfl : ∀ k : Nat, k ≤ N → (O.o (ofRows rfieldOf l) k).length ≤ 1099511627 := fun k h => by rw [O.h, ofRows_len (by omega)]; omega
  clear h
  refine go (fn := Go.Proofs.Tryd.f41) (n := 81) (rv := [ResultVar.tmp 2, ResultVar.tmp 3]) rfl (by decide) rfl (by decide +kernel) rfl rfl (by simp) fun F L C => ?_
  cbv
  (repeat' first | (refine Named.i64 ?_ fun _ _ => ?_; (focus lia); cbv) | (refine Named.len fun _ _ hq => ?_; (try simp only [List.length_append, List.length_take, List.length_drop, List.length_replicate, List.length_set] at hq); cbv) | (refine Named.mk fun _ _ => ?_; cbv) | (refine Br.t ?_ ?_; (focus first | assumption | lia); cbv) | (refine Br.f ?_ ?_; (focus first | assumption | lia); cbv) | (refine Br.mk (fun _ => ?_) (fun _ => ?_) <;> cbv) | (refine Need.mk ?_ ?_; rotate_left; cbv) | (refine RetThen.mk [] [] ?_; cbv))
  refine LoopThen.mk (C.loopAt (ι := Nat) [(2, 7), (9, 70)] (fun k => [(4, .ref 50), (5, .int .i64 k), (8, .top)]) (fun i => [(50, .arr 0 none 6 (O.o (ofRows rfieldOf l) i)), (192, .box [.int .i64 k, .int .i64 n, .str t, .sl false 0 false 4 (O.o Cels.enc l)])])
    (fun i => i ≤ N ∧ ∀ (j : Nat) y, j < i → l[j]? = some y → two y = true) (fun k => N - k) (by decide +kernel) (Start.mk z [(50, .loc 640)] [] ⟨by lia, fun j y hj => by omega⟩ ?_) ?_)
  · cbv
    (repeat' apply And.intro) <;> first | exact True.intro | exact WkR.refl _ | rfl | exact WkR.of_eq hz0 | lia
  intro i g
  cbv
  have g1 : i ≤ N := g.1
  have g2 := g.2
  clear g
  by_cases hi : i < l.length
  · obtain ⟨x, hx⟩ : ∃ x, l[i]? = some x := ⟨l[i], by simp [hi]⟩
    have hst := ofRows_more O (f := rfieldOf) hx
    have hno : two x = false → w = false ∧ Q = [] := fun h => hbad2 fun k => allF_not hx h k.1
    have hyes : two x = true → ∀ (j : Nat) y, j < i + 1 → l[j]? = some y → two y = true := fun h => allF_step hx h g2
    have hll := hfl i g1
    clear hfl hbad2 hgood2 g2 hz0 eQ ew hsm hs
    by_cases h2 : x.list.length = 2
    · obtain ⟨a, b, hab, ha, hb⟩ := list2at h2
      have hy2 := hyes (by simp [two, h2])
      have hfo := rfield2 hab
      have hlx := Cels.en_len O x.list
      have hlb := Cels.en_len O b.list
      by_cases h3 : b.list.length = 2
      · obtain ⟨p, q, hpq, hp, hq⟩ := list2at h3
        rw [hfo, rval_pt hpq] at hst
        obtain ⟨kx, nx, tx, lx⟩ := x
        obtain ⟨kb, nb, tb, lb⟩ := b
        simp only [Cel.list] at ha hb hp hq h2 h3 hlx hlb
        clear hno hyes hab hfo hpq
        (repeat' first | (refine Named.i64 ?_ fun _ _ => ?_; (focus lia); cbv) | (refine Ex.cel O hx ?_ ?_; (focus lia); cbv) | (refine Ex.cel O hb ?_ ?_; (focus lia); cbv) | (refine Ex.cel O hp ?_ ?_; (focus lia); cbv) | (refine Ex.cel O hq ?_ ?_; (focus lia); cbv) | (refine Ex.cel O ha ?_ ?_; (focus lia); cbv) | (refine Back.up [(50, .loc 4608)] [] ?_ ?_ fun _ _ => ?_; rotate_left 2; cbv; refine And.intro ?_ ?_) | (refine Named.len fun _ _ hq => ?_; (try simp only [List.length_append, List.length_take, List.length_drop, List.length_replicate, List.length_set] at hq); cbv) | (refine Named.mk fun _ _ => ?_; cbv) | (refine Br.t ?_ ?_; (focus first | assumption | lia); cbv) | (refine Br.f ?_ ?_; (focus first | assumption | lia); cbv) | (refine Br.mk (fun _ => ?_) (fun _ => ?_) <;> cbv) | (refine Need.mk ?_ ?_; rotate_left; cbv) | (refine RetThen.mk [] [] ?_; cbv))
        all_goals (repeat' apply And.intro)
        all_goals try first
          | exact True.intro
          | exact WkR.refl _
          | (clear hst hx ha hb hp hq; lia)
          | (simp only [List.length_cons, List.length_nil]; clear hst hx ha hb hp hq; lia)
        all_goals first
          | exact hy2
          | (refine WkR.of_eq ?_; subst_vars; exact hst)
          | trace_state
      · have hst1 : b.kind = 2 → _ := fun h => (by rw [hfo, rval_txt h3 h] at hst; exact hst : O.o (ofRows rfieldOf l) (i + 1) = O.o (ofRows rfieldOf l) i ++ [(Field.mk a.text (textV b.text)).enc])
        have hst2 : b.kind ≠ 2 → _ := fun h => (by rw [hfo, rval_num h3 h] at hst; exact hst : O.o (ofRows rfieldOf l) (i + 1) = O.o (ofRows rfieldOf l) i ++ [(Field.mk a.text (numV b.num)).enc])
        obtain ⟨kx, nx, tx, lx⟩ := x
        obtain ⟨kb, nb, tb, lb⟩ := b
        simp only [Cel.list] at ha hb h2 h3 hlx hlb
        simp only [Cel.kind] at hst1 hst2
        clear hno hyes hab hfo hst
        (repeat' first | (refine Named.i64 ?_ fun _ _ => ?_; (focus lia); cbv) | (refine Ex.cel O hx ?_ ?_; (focus lia); cbv) | (refine Ex.cel O hb ?_ ?_; (focus lia); cbv) | (refine Ex.cel O ha ?_ ?_; (focus lia); cbv) | (refine Back.up [(50, .loc 4608)] [] ?_ ?_ fun _ _ => ?_; rotate_left 2; cbv; refine And.intro ?_ ?_) | (refine Named.len fun _ _ hq => ?_; (try simp only [List.length_append, List.length_take, List.length_drop, List.length_replicate, List.length_set] at hq); cbv) | (refine Named.mk fun _ _ => ?_; cbv) | (refine Br.t ?_ ?_; (focus first | assumption | lia); cbv) | (refine Br.f ?_ ?_; (focus first | assumption | lia); cbv) | (refine Br.mk (fun _ => ?_) (fun _ => ?_) <;> cbv) | (refine Need.mk ?_ ?_; rotate_left; cbv) | (refine RetThen.mk [] [] ?_; cbv))
        all_goals (repeat' apply And.intro)
        all_goals try first
          | exact True.intro
          | exact WkR.refl _
          | (clear hst1 hst2 hx ha hb; lia)
          | (simp only [List.length_cons, List.length_nil]; clear hst1 hst2 hx ha hb; lia)
        all_goals first
          | exact hy2
          | (refine WkR.of_eq ?_; subst_vars; exact hst1 (by assumption))
          | (refine WkR.of_eq ?_; subst_vars; exact hst2 (by assumption))
          | (refine WkR.of_eq ?_; subst_vars; exact hst1 rfl)
          | (exfalso; clear hst1 hst2 hx ha hb; lia)
          | trace_state
    · have hno2 : w = false ∧ Q = [] := hno (by rw [two]; exact decide_eq_false h2)
      have hlx := Cels.en_len O x.list
      obtain ⟨kx, nx, tx, lx⟩ := x
      simp only [Cel.list] at hlx h2
      clear hno hyes hst
      (repeat' first | (refine Named.i64 ?_ fun _ _ => ?_; (focus lia); cbv) | (refine Ex.cel O hx ?_ ?_; (focus lia); cbv) | (refine Named.len fun _ _ hq => ?_; (try simp only [List.length_append, List.length_take, List.length_drop, List.length_replicate, List.length_set] at hq); cbv) | (refine Named.mk fun _ _ => ?_; cbv) | (refine Br.t ?_ ?_; (focus first | assumption | lia); cbv) | (refine Br.f ?_ ?_; (focus first | assumption | lia); cbv) | (refine Br.mk (fun _ => ?_) (fun _ => ?_) <;> cbv) | (refine Need.mk ?_ ?_; rotate_left; cbv) | (refine RetThen.mk [] [] ?_; cbv))
      all_goals first
        | (exfalso; clear hx hno2; lia)
        | exact ⟨hno2.2, hno2.1.symm, trivial⟩
        | exact ⟨hno2.2, hno2.1, trivial⟩
        | (clear hx hno2; lia)
        | trace_state
  · have hke := ofRows_all O (f := rfieldOf) (l := l) (k := i) (by omega)
    have hal := allF_end (by omega) g2
    have hll := hfl i g1
    obtain ⟨D, eD⟩ : ∃ D, D = O.o (List.map rfieldOf) l := ⟨_, rfl⟩
    have eD2 : D = l.map rfieldOf := by rw [eD, O.h]
    have hD : D.length = l.length := by rw [eD2]; simp
    rw [← eD2] at hs hbad2 hgood2
    rw [← eD] at hke
    have hc2 := mayL_fn O D (by omega) hs
    have hc3 := rpcellL_fn O D
    have hc4 := hsm D
    rw [← hke] at hc2 hc3
    have hmm : O.o may D = true ↔ may D = true := by rw [O.h]
    have hy : may D = true → S D = true → w = true ∧ Q = O.o (ofRows rfieldOf l) i := fun h k => by
      have := hgood2 ⟨hal, h, k⟩
      refine ⟨this.1, ?_⟩
      rw [eQ, this.2, hke]
    obtain ⟨M, eM⟩ : ∃ M, M = O.o may D := ⟨_, rfl⟩
    rw [← eM] at hc2 hmm
    obtain ⟨T, eT⟩ : ∃ T, T = S D := ⟨_, rfl⟩
    rw [← eT] at hc4 hy hbad2
    have hn1 : M = false → w = false ∧ Q = [] := fun h => hbad2 fun k => by rw [hmm.2 k.2.1] at h; cases h
    have hn2 : T = false → w = false ∧ Q = [] := fun h => hbad2 fun k => by rw [k.2.2] at h; cases h
    have hc5 : M = true → _ := fun h => hc3 (hmm.1 h)
    have hc6 : M = true → _ := fun h => hc4 (hmm.1 h)
    have hy2 : M = true → T = true → w = true ∧ Q = O.o (ofRows rfieldOf l) i := fun h => hy (hmm.1 h)
    clear hfl hbad2 hgood2 g2 hz0 eQ ew hal hke hsm hc3 hc4 hs hmm eM eT hy
    (repeat' first | (refine Named.i64 ?_ fun _ _ => ?_; (focus lia); cbv) | (refine CallThen.bool (C.fn (hc2)) (fun _ => ?_) (fun _ => ?_) <;> cbv) | (refine CallThen.mk _ _ (C.fn (hc5 (by assumption))) ?_; cbv) | (refine CallThen.bool (C.fn (hc6 (by assumption))) (fun _ => ?_) (fun _ => ?_) <;> cbv) | (refine RetThen.mk [] [50] ?_; cbv) | (refine Named.len fun _ _ hq => ?_; (try simp only [List.length_append, List.length_take, List.length_drop, List.length_replicate, List.length_set] at hq); cbv) | (refine Named.mk fun _ _ => ?_; cbv) | (refine Br.t ?_ ?_; (focus first | assumption | lia); cbv) | (refine Br.f ?_ ?_; (focus first | assumption | lia); cbv) | (refine Br.mk (fun _ => ?_) (fun _ => ?_) <;> cbv) | (refine Need.mk ?_ ?_; rotate_left; cbv) | (refine RetThen.mk [] [] ?_; cbv))
    all_goals first
      | exact ⟨(hn1 (by assumption)).2, (hn1 (by assumption)).1, trivial⟩
      | exact ⟨(hn2 (by assumption)).2, (hn2 (by assumption)).1, trivial⟩
      | (refine ⟨.of_eq ?_, (hy2 (by assumption) (by assumption)).1, trivial⟩; rw [(hy2 (by assumption) (by assumption)).2]; symm; assumption)
      | (clear hn1 hn2 hy2; lia)
      | trace_state
end Go.Sym
